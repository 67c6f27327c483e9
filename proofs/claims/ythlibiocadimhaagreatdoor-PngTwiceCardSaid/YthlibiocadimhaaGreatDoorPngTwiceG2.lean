/-
  png.palette.
  Arguments and package variables, opened to cells: slices of records, sentinels of errors.
  Rows foretold: foretell, at, check, and what is done and undone, as lists.
  Code lengths: words, Valid: what they compute.
  Valid: what it says of lengths.
  Codes: the words of lengths.
  Plain law of the CRC: a step, eight of them, a byte by the table. No program in sight.
  Plain law of bursts: bits turned within 32 in a row change the CRC. No program in sight.
-/
import Derived.Test.YthlibiocadimhaaGreatDoorPngTwiceG1
import Derived.BigQuiet
import Derived.Maps.AppendAt
import Derived.Deep.RegionHeld3
import Derived.Deep.Fields
import Derived.Stop.LaidErr
import Derived.LaidSub
import Derived.ProofKit
import Derived.OpenShut
import Derived.Laws.EntriesVeiled
import Derived.Deep.WholeRow
import Derived.Deep.OwnRows
set_option linter.unusedSimpArgs false
set_option linter.unusedVariables false
set_option maxRecDepth 100000
namespace Go.Proofs.YthlibiocadimhaaGreatDoor
open Go.RowKit
theorem PlS.start (w:World) (W H:Int) (x:Value) (t:TypeId):PlS w W H x ((w.alloc (.cells #[.int .i64 W,.int .i64 H,x] t)).alloc (.map #[] 0)) (.slice none 0 0) [] []:=by
 refine⟨((Ext.refl _).alloc _).alloc _,(PicAt.new w W H x t).ext ((Ext.refl _).alloc _),?_,World.ownsRow_nil _ _ _ _,by simp,by simp⟩;have:=MP.new (w.alloc (.cells #[.int .i64 W,.int .i64 H,x] t)) (Png.num []) (fun p=>by unfold Png.num;simp);simpa using this
theorem PlS.val {w:World} {W H:Int} {x:Value} {wr:World} {v:Value} {m l:List P4} (h:PlS w W H x wr v m l):∃a c,v=.slice a l.length c:=by
 rcases ownsRow_slice h.own with⟨rfl,h0⟩ | ⟨g,cap,rfl⟩
 ·exact⟨none,0,by rw[h0]⟩
 ·exact⟨_,cap,rfl⟩
/-- what the palette tells -/
def PalPost (w:World) (px:Nat→P4) (n:Nat) (e:Ending) (w':World):Prop:=
 ∃y c mb,e=.returned (.tuple #[.slice y (Png.pals px n).length c,.map (some mb)])∧Pxs w' y (Png.pals px n).length (Png.atL (Png.pals px n))∧MP w' mb (Png.num (Png.pals px n))∧Ext w w'
set_option maxHeartbeats 4000000 in
theorem palette_any (W H:Int) (x:Option Addr) (n cap:Nat) (px:Nat→P4) (w:World) (hx:Pxs w x n px) (hn:n≤100000000):
  Calls Tryz.prog 20 #[.agg #[.int .i64 W,.int .i64 H,.slice x n cap]] w fun e w'=>PalPost w px n e w':=by
 have hmm:=@run_makeMap Tryz.prog;have HX:=Hd hx;obtain⟨i0,hi0,hz0,hz1,hz2⟩:=info_parts pixinfo;clear hx;go_enter Tryz.func20,Tryz.ntmps20
 go_wp2_with fail;refine wp_world (fun wz=>PlS w W H (.slice x n cap) wz (.slice none 0 0) [] []) (PlS.start w W H _ _) ?_;intro wz hP;have c0:=hP.pic.c2;clear hmm;have HP:=Hd hP;clear hP;go_wp2_with fail;clear c0;go_loopw [5,14] (fun lv iv wr=>∃k:Nat,iv=.int .i64 (k:Int)∧k≤n∧Hid (PlS w W H (.slice x n cap) wr lv (Png.pals px k) (Png.pals px k))) (fun _ iv _=>n-(intOf iv).toNat)
 case atStart=>exact⟨0,rfl,by omega,HP⟩
 case round=>
  clear HP;obtain⟨k,rfl,hk,HP⟩:=hrel;by_cases hlt:k<n
  ·have t0:decide ((k:Int)<(n:Int))=true:=decide_eq_true (by omega);obtain⟨A,rfl⟩:=HX.out.isSome hlt;obtain⟨q,hq⟩:∃q,px k=q:=⟨_,rfl⟩;have HQ:=Hd hq;obtain⟨c0,c1,c2,c3,hok⟩:=(HX.out.ext HP.out.ext).2 A rfl k hlt;rw[hq] at c0 c1 c2 c3 hok;have HOK:=Hd hok;clear hok hq;have hki:(0:Int)≤(k:Int):=by omega
   have hkn:(k:Int)<(n:Int):=by omega
   have HLN:=Hd (Png.pals_len px k);obtain⟨l,hl⟩:∃l,Png.pals px k=l:=⟨_,rfl⟩;rw[hl] at HP HLN;have HL:=Hd hl;clear hl;obtain⟨y1,c9,rfl⟩:=HP.out.val;obtain⟨N,hN⟩:∃N,l.length=N:=⟨_,rfl⟩;rw[hN] at HLN HP⊢;have HNN:=Hd hN;clear hN;have hNk:N≤k:=HLN.out;have S2:=Hd (HP.out.step ((Ext.refl wr).alloc (.cells #[.int .u8 q.r,.int .u8 q.g,.int .u8 q.b,.int .u8 q.a] 53)));have B2:=Hd (Bk.at (w:=wr) (cs:=#[.int .u8 q.r,.int .u8 q.g,.int .u8 q.b,.int .u8 q.a]) (t:=53) rfl);have tl:=S2.out.map.look HOK.out;unfold P4.val pixv at tl;by_cases hm:q∈l
   ·obtain⟨f,hf⟩:∃f,Png.num l q=some f:=⟨_,if_pos hm⟩;rw[hf] at tl;clear B2 hf;simp only[Option.getD_some,Option.isSome_some] at tl;go_wp2_with fail;go_roundw
    case rel=>exact⟨k+1,by go_num,by omega,Hd (by rw[Png.pals_in (by rw[HQ.out,HL.out];exact hm),HL.out];exact S2.out)⟩
    case measure=>simp[intOf];omega
   ·rw[show Png.num l q=none from if_neg hm] at tl;simp only[Option.getD_none,Option.isSome_none] at tl;have HM:=Hd hm;clear hm;obtain⟨w5,hrun,hM5,hK5⟩:=S2.out.map.store (n:=N) HOK.out;have S5:=Hd (S2.out.stored HM.out (by rw[HNN.out];exact hM5) hK5);have B5:=Hd (B2.out.keeps hK5 (fun e=>by have:=HP.out.hs;omega));unfold P4.val pixv at hrun;clear hM5 hK5;have k0:=B5.out.cell 0;have k1:=B5.out.cell 1;have k2:=B5.out.cell 2;have k3:=B5.out.cell 3;have HRow:=Hd (show w5.ownsRow (w.heap.size+2) 53 4 (.slice y1 N c9) N (pxV N (Png.atL l)) from by have:=S5.out.own;rw[HNN.out] at this;exact this);have hzb:=S5.out.hs;go_wp2_with (at_builtin;refine wpList_append_own_at _ rfl _ _ 22 rfl (w.heap.size+2) 53 i0 _ 4 4 Tryz.underlying22 hi0 hz0 hz1 hz2 rfl (by decide) _ _ _ rfl (HRow.out.alloc _) ⟨w5.heap.size,0,none⟩ 1 1 [.int .u8 q.r,.int .u8 q.g,.int .u8 q.b,.int .u8 q.a] rfl rfl ?c1 ?c2 ?c3 ?c4 ?c5 ?_)
    case c1=>
     intro j u hu;rw[add_plain];exact (Bk.at (w:=w5) rfl).cell j |>.trans (by simpa using hu)
    case c2=>intro u hu;simp at hu;rcases hu with hu | hu | hu | hu <;> (subst hu;rfl)
    case c3=>unfold maxLen;omega
    case c4=>omega
    case c5=>rw[World.size_alloc];omega
    intro v7 w7 hown hgrow _ hat;have S7:=Hd (S5.out.grown (p:=q) HOK.out (by rw[HNN.out];exact hown) hgrow);clear hown hgrow hat HRow S5 B5 S2 B2 k0 k1 k2 k3 tl hrun hzb;go_wp2_with fail;go_roundw
    case rel=>exact⟨k+1,by go_num,by omega,Hd (by rw[Png.pals_new (by rw[HQ.out,HL.out];exact HM.out),HL.out,HQ.out];exact S7.out)⟩
    case measure=>simp[intOf];omega
  ·obtain rfl:k=n:=by omega
   obtain⟨y1,c9,rfl⟩:=HP.out.val;go_wp2_with fail;go_ret2;have hR:=HP.out.own;obtain⟨y2,c2,e2,hP2,_⟩:=Pxs.of_own hR (fun i hi=>HP.out.ok _ (by unfold Png.atL;rw[List.getD_eq_getElem?_getD,List.getElem?_eq_getElem hi];exact List.getElem_mem hi));injection e2 with e3 _ e4;subst e3;subst e4;exact⟨_,_,_,rfl,hP2,HP.out.map,HP.out.ext⟩
end Go.Proofs.YthlibiocadimhaaGreatDoor
namespace Go.Proofs.YthlibiocadimhaaGreatDoor
open Go.ChangeShapes Go.WideShapes Go.RowKit Go.Deep
/-- a slice of records of one-cell fields: every field's cell and how it reads -/
theorem open_recs {H:Type} {enc:TypeId × Value→H} {P:Program} {w:World} {base:Nat} {spare:Nat→Bool} {held:Bool} {t e:TypeId} {fs:Array Field} {fuel:Nat} {cs:List Value} {x:DataW H × List MemPlace}
  (ht:P.underlying t=some (.slice e)) (he:P.underlying e=some (.struct fs)) (hone:oneCellFields P fs=true) (hC:P.cellsOf e=fs.size) (h:DataW.trod enc P w base spare held fuel t cs=some x):
  cs=[.slice none 0 0]∨∃(a:Addr) (len cap:Nat),cs=[.slice (some a) len cap]∧len≤cap∧cap≤maxLen∧
   ∀i,i<len→∀(j:Nat) (f:Field),fs[j]? =some f→∃(v:Value) (y:DataW H × List MemPlace) (n:Nat),w.cell? ((a.add (i*fs.size)).add j)=some v∧DataW.trod enc P w base spare held n f.type [v]=some y:=by
 rcases open_slice ht h with⟨h0,_⟩ | ⟨a,len,cap,m,n,D,Pl,hcs,_,hl,hm,hmm,_,hi⟩
 ·exact .inl h0
 ·refine .inr ⟨a,len,cap,hcs,hl,hm,fun i hlt j f hj=>?_⟩;have him:i<m:=by rw[hmm];split <;> omega
  obtain⟨cs',hc,hr⟩:=hi i him;obtain⟨xs,k,_,_,_,hxl,hx⟩:=DataW.trod_struct he hr;obtain⟨_,hcl,hat⟩:=World.cells?_some hc;rw[hC] at hcl hat;have hjs:j<fs.size:=(Array.getElem?_eq_some_iff.1 hj).1;obtain⟨o1,o2⟩:=hone_of hone j f hj;have hxj:=hx j f hj;rw[o1,o2,List.drop_eq_getElem_cons (by omega)] at hxj;have e1:xs[j]? =some (xs[j]'(by omega)):=List.getElem?_eq_getElem (by omega);have e2:w.cell? ((a.add (i*fs.size)).add j)=some (cs'[j]'(by omega)):=by
   rw[hat j hjs];exact List.getElem?_eq_getElem (by omega)
  exact⟨_,_,k,e2,hxj.trans e1⟩
theorem cell_add {w:World} {q:Addr} {v:Value} {k:Nat} (hk:k≠0) (h:w.cell? (q.add k)=some v):w.cell? ⟨q.block,q.off+k,none⟩=some v:=by
 unfold Addr.add at h;rw[if_neg hk] at h;exact h
theorem sent_row (u : TypeId) (h : Tryz.prog.typeName? 3 u = some "*errors.errorString") : u = 275 :=
 typeName_ptr_named (nm := "errors.errorString") (by kernel_rfl) (by kernel_rfl) (by decide) u h
theorem sentinel {l:List (String × DataW Unit)} {W:World} {n:String} {g:Nat} {text:List UInt8} {ti:TypeId} {ms:Array (String × TypeId)} (h:laidMetH Tryz.prog l W)
  (hl : l.filter (fun x => x.1 == n) = [(n, .iface "*errors.errorString" (.ptr (.agg [.lit (.string text)])))]) (hg : Tryz.prog.globalNamed n = some g)
  (ht:(Tryz.prog.globals[g]?).map (·.type)=some ti) (hi: Tryz.prog.underlying ti=some (.interface ms)):
  ∃(E:Addr) (s:ByteArray),W.cell? ⟨g,0,none⟩=some (.iface 275 (.pointer (some E)))∧W.cell? E=some (.string s)∧s.data.toList=text∧s.size≤maxLen:=by
 have h1 := laidMetH.filter (fun x => x.1 == n) h;rw [hl] at h1;have h2 : laidMet Tryz.prog [(n, .iface "*errors.errorString" (.ptr (.agg [.lit (.string text)])))] W := h1
 obtain⟨E,s,hv,hc,hs,hz⟩:=laid_sentinel h2 hg ht hi sent_row Tryz.underlying275 Tryz.underlying293 rfl rfl Tryz.underlying9 (by kernel_rfl) (by kernel_rfl);exact⟨E,s,by simpa using World.var?_cell hg hv 0,hc,hs,hz⟩
end Go.Proofs.YthlibiocadimhaaGreatDoor
namespace Go.Proofs.YthlibiocadimhaaGreatDoor
open Go.RowKit
def paeth (a b c:Nat):Nat:=
 let p:Int:=(a:Int)+b-c;let da:=(p-a).natAbs;let db:=(p-b).natAbs;let dc:=(p-c).natAbs;if dc<(if db<da then db else da) then c else if db<da then b else a
def fore (k:Int) (a b c:Nat):Nat:=if k=1 then a else if k=2 then b else if k=3 then (a+b)/2 else if k=4 then paeth a b c else 0
theorem fore_lt (k:Int) (a b c:Nat) (ha:a<256) (hb:b<256) (hc:c<256):fore k a b c<256:=by
 unfold fore paeth;split
 ·omega
 ·split
  ·omega
  ·split
   ·omega
   ·split
    ·dsimp only;split <;> (try split) <;> omega
    ·omega
theorem abs_calls (x:Int) (w:World) (h1: -1000≤x) (h2:x≤1000):
  Calls Tryz.prog 142 #[.int .i64 x] w fun e w'=>e=.returned (.int .i64 (x.natAbs:Int))∧w=w':=by
 go_enter Tryz.func142,Tryz.ntmps142
 go_wp2
 all_goals (go_ret;exact⟨ret_int (by omega),rfl⟩)
theorem fat_calls (s:ByteArray) (i:Int) (w:World) (h1: -9223372036854775808≤i) (h2:i≤9223372036854775807):
  Calls Tryz.prog 115 #[.string s,.int .i64 i] w fun e w'=>e=.returned (.int .u8 (if 0≤i then ((s.data.toList.getD i.toNat 0).toNat:Int) else 0))∧w=w':=by
 by_cases hi:0≤i
 ·obtain⟨k,rfl⟩:∃k:Nat,i=k:=⟨i.toNat,by omega⟩;by_cases hk:k<s.size
  ·go_enter Tryz.func115,Tryz.ntmps115
   go_wp2
   all_goals (go_ret;exact⟨rfl,rfl⟩)
  ·go_enter Tryz.func115,Tryz.ntmps115
   go_wp2
   all_goals (go_ret;exact⟨rfl,rfl⟩)
 ·go_enter Tryz.func115,Tryz.ntmps115
  go_wp2
  all_goals (go_ret;exact⟨rfl,rfl⟩)
theorem foretell_four (a b c:Nat) (w:World) (ha:a<256) (hb:b<256) (hc:c<256):
  Calls Tryz.prog 114 #[.int .i64 4,.int .u8 (a:Int),.int .u8 (b:Int),.int .u8 (c:Int)] w fun e w'=>e=.returned (.int .u8 (paeth a b c:Int))∧w=w':=by
 obtain⟨da,hda⟩:∃d:Nat,((a:Int)+b-c-a).natAbs=d:=⟨_,rfl⟩;obtain⟨db,hdb⟩:∃d:Nat,((a:Int)+b-c-b).natAbs=d:=⟨_,rfl⟩;obtain⟨dc,hdc⟩:∃d:Nat,((a:Int)+b-c-c).natAbs=d:=⟨_,rfl⟩;have la:da≤255:=by omega
 have lb:db≤255:=by omega
 have lc:dc≤510:=by omega
 have hp:paeth a b c=if dc<(if db<da then db else da) then c else if db<da then b else a:=by
  unfold paeth;dsimp only;rw[hda,hdb,hdc]
 rw[hp];have HA:=Hd hda;have HB:=Hd hdb;have HC:=Hd hdc;clear hda hdb hdc hp;by_cases h1:db<da
 ·rw[if_pos h1,if_pos h1];by_cases h2:dc<db
  ·rw[if_pos h2];go_enter Tryz.func114,Tryz.ntmps114
   go_wp2_with fail;refine (abs_calls _ _ (by omega) (by omega)).mono ?_;rintro e w' ⟨rfl,rfl⟩;rw[HA.out];go_wp2_with fail;refine (abs_calls _ _ (by omega) (by omega)).mono ?_;rintro e w' ⟨rfl,rfl⟩;rw[HB.out];go_wp2_with fail;refine (abs_calls _ _ (by omega) (by omega)).mono ?_;rintro e w' ⟨rfl,rfl⟩;rw[HC.out];go_wp2_with fail;go_ret;exact⟨rfl,rfl⟩
  ·rw[if_neg h2];go_enter Tryz.func114,Tryz.ntmps114
   go_wp2_with fail;refine (abs_calls _ _ (by omega) (by omega)).mono ?_;rintro e w' ⟨rfl,rfl⟩;rw[HA.out];go_wp2_with fail;refine (abs_calls _ _ (by omega) (by omega)).mono ?_;rintro e w' ⟨rfl,rfl⟩;rw[HB.out];go_wp2_with fail;refine (abs_calls _ _ (by omega) (by omega)).mono ?_;rintro e w' ⟨rfl,rfl⟩;rw[HC.out];go_wp2_with fail;go_ret;exact⟨rfl,rfl⟩
 ·rw[if_neg h1,if_neg h1];by_cases h2:dc<da
  ·rw[if_pos h2];go_enter Tryz.func114,Tryz.ntmps114
   go_wp2_with fail;refine (abs_calls _ _ (by omega) (by omega)).mono ?_;rintro e w' ⟨rfl,rfl⟩;rw[HA.out];go_wp2_with fail;refine (abs_calls _ _ (by omega) (by omega)).mono ?_;rintro e w' ⟨rfl,rfl⟩;rw[HB.out];go_wp2_with fail;refine (abs_calls _ _ (by omega) (by omega)).mono ?_;rintro e w' ⟨rfl,rfl⟩;rw[HC.out];go_wp2_with fail;go_ret;exact⟨rfl,rfl⟩
  ·rw[if_neg h2];go_enter Tryz.func114,Tryz.ntmps114
   go_wp2_with fail;refine (abs_calls _ _ (by omega) (by omega)).mono ?_;rintro e w' ⟨rfl,rfl⟩;rw[HA.out];go_wp2_with fail;refine (abs_calls _ _ (by omega) (by omega)).mono ?_;rintro e w' ⟨rfl,rfl⟩;rw[HB.out];go_wp2_with fail;refine (abs_calls _ _ (by omega) (by omega)).mono ?_;rintro e w' ⟨rfl,rfl⟩;rw[HC.out];go_wp2_with fail;go_ret;exact⟨rfl,rfl⟩
theorem foretell_calls (k:Int) (a b c:Nat) (w:World) (h1: -9223372036854775808≤k) (h2:k≤9223372036854775807) (ha:a<256) (hb:b<256) (hc:c<256):
  Calls Tryz.prog 114 #[.int .i64 k,.int .u8 (a:Int),.int .u8 (b:Int),.int .u8 (c:Int)] w fun e w'=>e=.returned (.int .u8 (fore k a b c:Int))∧w=w':=by
 by_cases k4:k=4
 ·subst k4;exact foretell_four a b c w ha hb hc
 by_cases k1:k=1
 ·subst k1;rw[show fore 1 a b c=a from rfl];go_enter Tryz.func114,Tryz.ntmps114
  go_wp2
  go_ret;exact⟨rfl,rfl⟩
 by_cases k2:k=2
 ·subst k2;rw[show fore 2 a b c=b from rfl];go_enter Tryz.func114,Tryz.ntmps114
  go_wp2
  go_ret;exact⟨rfl,rfl⟩
 by_cases k3:k=3
 ·subst k3;rw[show fore 3 a b c=(a+b)/2 from rfl];go_enter Tryz.func114,Tryz.ntmps114
  go_wp2
  go_ret;exact⟨ret_int (by omega),rfl⟩
 rw[show fore k a b c=0 by simp[fore,k1,k2,k3,k4]];have t1:(k ==1)=false:=by simp[k1]
 have t2:(k ==2)=false:=by simp[k2]
 have t3:(k ==3)=false:=by simp[k3]
 have t4:(k ==4)=false:=by simp[k4]
 clear k1 k2 k3 k4;go_enter Tryz.func114,Tryz.ntmps114
 go_wp2
 go_ret;exact⟨rfl,rfl⟩
def check (k step:Int):Prop:=0≤k∧k≤4∧1≤step∧step≤8
def check2 (row ahead:ByteArray):Prop:=ahead.size=0∨ahead.size=row.size
theorem isEmpty_iff (s:ByteArray):s.toList.isEmpty=decide (s.size=0):=by
 rw[ByteArray.toList_eq];have e:s.size=s.data.toList.length:=by rw[Array.length_toList];rfl
 rw[e];cases s.data.toList <;> rfl
theorem check_calls (k:Int) (row ahead:ByteArray) (step:Int) (w:World) (h1: -9223372036854775808≤k) (h2:k≤9223372036854775807) (h3: -9223372036854775808≤step) (h4:step≤9223372036854775807)
  (EB ES:Value) (hB:w.cell? ⟨2,0,none⟩=some EB) (hS:w.cell? ⟨0,0,none⟩=some ES):
  Calls Tryz.prog 113 #[.int .i64 k,.string row,.string ahead,.int .i64 step] w fun e w'=>((e=.returned .nilIface∧check k step∧check2 row ahead)∨(e=.returned EB∧¬ check k step)∨(e=.returned ES∧check k step∧¬ check2 row ahead))∧w=w':=by
 by_cases hc:check k step
 ·have HC:=Hd hc;obtain⟨c1,c2,c3,c4⟩:=hc;have e1:=isEmpty_iff ahead;by_cases z:ahead.size=0
  ·have HZ:=Hd z;rw[decide_eq_true z] at e1;clear z;go_enter Tryz.func113,Tryz.ntmps113
   go_wp2
   go_ret;exact⟨.inl ⟨rfl,HC.out,.inl HZ.out⟩,rfl⟩
  ·rw[decide_eq_false z] at e1;by_cases q:ahead.size=row.size
   ·have e2:((ahead.size:Int) !=(row.size:Int))=false:=by rw[q];simp
    have HQ:=Hd q;clear q z;go_enter Tryz.func113,Tryz.ntmps113
    go_wp2
    go_ret;exact⟨.inl ⟨rfl,HC.out,.inr HQ.out⟩,rfl⟩
   ·have e2:((ahead.size:Int) !=(row.size:Int))=true:=by rw[bne_iff_ne];omega
    have HN:Hid (¬ check2 row ahead):=Hd (fun h=>by rcases h with h | h;exact z h;exact q h);clear q z;go_enter Tryz.func113,Tryz.ntmps113
    go_wp2
    go_ret;exact⟨.inr (.inr ⟨rfl,HC.out,HN.out⟩),rfl⟩
 ·have HC:=Hd hc;have hcs:k<0∨4<k∨step<1∨8<step:=by unfold check at hc;omega
  clear hc;rcases hcs with q | q | q | q
  ·go_enter Tryz.func113,Tryz.ntmps113
   go_wp2
   all_goals (go_ret;exact⟨.inr (.inl ⟨rfl,HC.out⟩),rfl⟩)
  ·go_enter Tryz.func113,Tryz.ntmps113
   go_wp2
   all_goals (go_ret;exact⟨.inr (.inl ⟨rfl,HC.out⟩),rfl⟩)
  ·by_cases q2:k<0
   ·go_enter Tryz.func113,Tryz.ntmps113
    go_wp2
    all_goals (go_ret;exact⟨.inr (.inl ⟨rfl,HC.out⟩),rfl⟩)
   ·by_cases q3:4<k
    ·go_enter Tryz.func113,Tryz.ntmps113
     go_wp2
     all_goals (go_ret;exact⟨.inr (.inl ⟨rfl,HC.out⟩),rfl⟩)
    ·go_enter Tryz.func113,Tryz.ntmps113
     go_wp2
     all_goals (go_ret;exact⟨.inr (.inl ⟨rfl,HC.out⟩),rfl⟩)
  ·go_enter Tryz.func113,Tryz.ntmps113
   go_wp2
   all_goals (go_ret;exact⟨.inr (.inl ⟨rfl,HC.out⟩),rfl⟩)
/-- a row of whole numbers as they lie in memory -/
def Ints (w:World) (x:Option Addr) (len:Nat) (f:Nat→Int):Prop:=
 (x=none→len=0)∧∀a,x=some a→∀i,i<len→w.cell? (a.add i)=some (.int .i64 (f i))∧ -9223372036854775808≤f i∧f i≤9223372036854775807
theorem Ints.block {w:World} {a:Addr} {len:Nat} {f:Nat→Int} (h:Ints w (some a) len f) (hl:0<len):a.block<w.heap.size:=by
 have q:=World.block_lt_of_cell? w _ (h.2 a rfl 0 hl).1;simpa [Addr.add] using q
theorem Ints.on {w w':World} {x:Option Addr} {len:Nat} {f:Nat→Int} {S:Nat→Prop} (h:Ints w x len f) (hB:Keeps S w w') (ha:∀a,x=some a→¬ S a.block):Ints w' x len f:=by
 refine⟨h.1,fun a hx i hi=>?_⟩;subst hx;have hb:(a.add i).block<w.heap.size:=by
  have:=h.block (by omega);unfold Addr.add;split <;> simpa using this
 have hs:¬ S (a.add i).block:=by
  have:=ha a rfl;unfold Addr.add;split <;> simpa using this
 rw[hB.cell hb hs];exact h.2 a rfl i hi
theorem Ints.ext {w w':World} {x:Option Addr} {len:Nat} {f:Nat→Int} (h:Ints w x len f) (hB:Ext w w'):Ints w' x len f:=
 h.on (S:=fun _=>False) hB.keeps (fun _ _=>id)
theorem validF_calls (x:Int) (w:World) (hx1: -9223372036854775808≤x) (hx2:x≤9223372036854775807):
  Calls Tryz.prog 167 #[.int .i64 x] w fun e w'=>e=.returned (.bool (decide (x<0∨15<x)))∧w=w':=by
 go_enter Tryz.func167,Tryz.ntmps167
 go_wp2_with fail
 ·go_ret;exact⟨ret_bool (by simp),rfl⟩
 ·go_ret;exact⟨rfl,rfl⟩
theorem indexV_calls (x:Option Addr) (len cap:Nat) (f:Nat→Int) (w:World) (hx:Ints w x len f) (hl:len≤maxLen):
  Calls Tryz.prog 168 #[.slice x len cap,.func (.func 167) #[] #[]] w fun e w'=>(∃i:Int,e=.returned (.int .i64 i)∧((i= -1∧∀j,j<len→0≤f j∧f j≤15)∨(0≤i∧∃j,j<len∧(f j<0∨15<f j))))∧w=w':=by
 unfold maxLen at hl;have HX:=Hd hx;clear hx;go_enter Tryz.func168,Tryz.ntmps168
 go_wp2
 go_loop [5,8] (fun _ c=>∃i:Nat,i≤len∧c=.int .i64 i∧Hid (∀j,j<i→0≤f j∧f j≤15)) (fun _ c=>len-(intOf c).toNat)
 case atStart=>exact⟨0,by omega,rfl,Hd fun j hj=>by omega⟩
 case round=>
  obtain⟨i,hi,rfl,HF⟩:=hrel;by_cases hlt:i<len
  ·obtain⟨a,rfl⟩:∃a,x=some a:=by
    cases x with
    | none=>have:=HX.out.1 rfl;omega
    | some a=>exact⟨a,rfl⟩
   obtain⟨hc,h1,h2⟩:=HX.out.2 a rfl i hlt;go_wp2_with fail;refine (validF_calls _ _ h1 h2).mono ?_;rintro e w1 ⟨rfl,rfl⟩;by_cases hbad:f i<0∨15<f i
   ·have hb:=decide_eq_true hbad;have HBAD:=Hd hbad;clear hbad;go_wp2_with fail;go_ret;exact⟨⟨i,rfl,.inr ⟨by omega,i,hlt,HBAD.out⟩⟩,rfl⟩
   ·have hb:=decide_eq_false hbad;have HBAD:=Hd hbad;clear hbad;go_wp2_with fail;go_round
    case rel=>
     refine⟨i+1,by omega,by go_num,Hd fun j hj=>?_⟩;rcases Nat.lt_succ_iff_lt_or_eq.1 hj with q | rfl
     ·exact HF.out j q
     ·have:=HBAD.out;omega
    case measure=>simp[intOf];omega
  ·obtain rfl:i=len:=by omega
   go_wp2
   go_ret;exact⟨⟨-1,rfl,.inl ⟨rfl,HF.out⟩⟩,rfl⟩
/-- how many of the first i elements are n -/
def many (f:Nat→Int) (n:Nat):Nat→Nat
 | 0=>0
 | i+1=>many f n i+if f i=n then 1 else 0
theorem many_le (f:Nat→Int) (n:Nat):∀i,many f n i≤i:=by
 intro i;induction i with
 | zero=>exact Nat.le_refl _
 | succ i ih=>unfold many;split <;> omega
theorem zero16 (w:World):(zeroValue 229).run Tryz.prog w=.ok (.agg (Array.replicate 16 (.int .i64 0))) w:=by kernel_rfl
theorem words_calls (x:Option Addr) (len cap:Nat) (f:Nat→Int) (w:World) (hx:Ints w x len f) (hl:len≤maxLen) (hf:∀j,j<len→0≤f j∧f j≤15):
  Calls Tryz.prog 148 #[.slice x len cap] w fun e w'=>e=.returned (.agg (cellsI .i64 16 fun n=>(many f n len:Int)))∧w'=w.alloc (.cells (cellsI .i64 16 fun n=>(many f n len:Int)) 229):=by
 unfold maxLen at hl;have HX:=Hd hx;have HF:=Hd hf;clear hx hf;go_enter Tryz.func148,Tryz.ntmps148
 have hz:=zero16;go_wp2
 rw[cellsI_zero];clear hz;go_loopw [4,7] (fun _ c wr=>∃i:Nat,i≤len∧c=.int .i64 i∧wr=w.alloc (.cells (cellsI .i64 16 fun n=>(many f n i:Int)) 229)) (fun _ c _=>len-(intOf c).toNat)
 case atStart=>exact⟨0,by omega,rfl,rfl⟩
 case round=>
  obtain⟨i,hi,rfl,rfl⟩:=hrel;by_cases hlt:i<len
  ·obtain⟨a,rfl⟩:∃a,x=some a:=by
    cases x with
    | none=>have:=HX.out.1 rfl;omega
    | some a=>exact⟨a,rfl⟩
   obtain⟨hc,h1,h2⟩:=(HX.out.ext ((Below.refl _ _).alloc (Nat.le_refl _) (.cells (cellsI .i64 16 fun n=>(many f n i:Int)) 229))).2 a rfl i hlt;obtain⟨q1,q2⟩:=HF.out i hlt;obtain⟨k,hk⟩:∃k:Nat,f i=k:=⟨(f i).toNat,by omega⟩;have HK:=Hd hk;rw[hk] at hc h1 h2 q1 q2;clear hk;have hg:=cellsI_get .i64 16 (fun n=>(many f n i:Int)) k (by omega);have hml:=many_le f k i;go_wp2
   rw[cellsI_set .i64 16 (fun n=>(many f n i:Int)) k ((many f k i:Int)+1) (fun n=>(many f n (i+1):Int))]
   ·exact⟨⟨i+1,by omega,by go_num,rfl⟩,by simp[intOf];omega⟩
   ·intro n _;have:=HK.out;by_cases hn:n=k
    ·subst hn;simp[many,this]
    ·have:¬ f i=n:=by omega
     simp[many,this,hn]
  ·obtain rfl:i=len:=by omega
   have hg0:=cellsI_get .i64 16 (fun n=>(many f n i:Int)) 0 (by decide);have hg1:=cellsI_get .i64 16 (fun n=>(many f n i:Int)) 1 (by decide);have hg2:=cellsI_get .i64 16 (fun n=>(many f n i:Int)) 2 (by decide);have hg3:=cellsI_get .i64 16 (fun n=>(many f n i:Int)) 3 (by decide);have hg4:=cellsI_get .i64 16 (fun n=>(many f n i:Int)) 4 (by decide);have hg5:=cellsI_get .i64 16 (fun n=>(many f n i:Int)) 5 (by decide);have hg6:=cellsI_get .i64 16 (fun n=>(many f n i:Int)) 6 (by decide);have hg7:=cellsI_get .i64 16 (fun n=>(many f n i:Int)) 7 (by decide);have hg8:=cellsI_get .i64 16 (fun n=>(many f n i:Int)) 8 (by decide);have hg9:=cellsI_get .i64 16 (fun n=>(many f n i:Int)) 9 (by decide);have hg10:=cellsI_get .i64 16 (fun n=>(many f n i:Int)) 10 (by decide);have hg11:=cellsI_get .i64 16 (fun n=>(many f n i:Int)) 11 (by decide);have hg12:=cellsI_get .i64 16 (fun n=>(many f n i:Int)) 12 (by decide);have hg13:=cellsI_get .i64 16 (fun n=>(many f n i:Int)) 13 (by decide);have hg14:=cellsI_get .i64 16 (fun n=>(many f n i:Int)) 14 (by decide);have hg15:=cellsI_get .i64 16 (fun n=>(many f n i:Int)) 15 (by decide);go_wp2
   clear hg0 hg1 hg2 hg3 hg4 hg5 hg6 hg7 hg8 hg9 hg10 hg11 hg12 hg13 hg14 hg15;rw[cellsI_same _ _ _ 0 _ rfl,cellsI_same _ _ _ 1 _ rfl,cellsI_same _ _ _ 2 _ rfl,cellsI_same _ _ _ 3 _ rfl,cellsI_same _ _ _ 4 _ rfl,cellsI_same _ _ _ 5 _ rfl,cellsI_same _ _ _ 6 _ rfl,cellsI_same _ _ _ 7 _ rfl,cellsI_same _ _ _ 8 _ rfl,cellsI_same _ _ _ 9 _ rfl,cellsI_same _ _ _ 10 _ rfl,cellsI_same _ _ _ 11 _ rfl,cellsI_same _ _ _ 12 _ rfl,cellsI_same _ _ _ 13 _ rfl,cellsI_same _ _ _ 14 _ rfl,cellsI_same _ _ _ 15 _ rfl];exact bodyPost_ret (v:=.agg (cellsI .i64 16 fun n=>(many f n i:Int))) (results_cell_row rfl _ _ w.heap.size 229 _ (0,0) _ rfl (heap_alloc_last w _) Tryz.underlying229 rfl (by rw[cellsI_size];kernel_rfl)) rfl ⟨rfl,rfl⟩
/-- the sum of Kraft, in parts of 2^15: lengths 1 to n -/
def kraft (f:Nat→Int) (len:Nat):Nat→Nat
 | 0=>0
 | n+1=>kraft f len n+many f (n+1) len*2^(14-n)
def inBounds (f:Nat→Int) (len:Nat):Prop:=len≤300∧∀j,j<len→0≤f j∧f j≤15
def complete (f:Nat→Int) (len:Nat):Prop:=len=many f 0 len∨(len=many f 0 len+1∧many f 1 len=1)∨kraft f len 15=32768
theorem kraft_le (f:Nat→Int) (len:Nat):∀n,n≤15→kraft f len n≤n*(len*16384):=by
 intro n;induction n with
 | zero=>intro _;exact Nat.zero_le _
 | succ n ih=>
  intro h;have h1:=ih (by omega);have h2:many f (n+1) len*2^(14-n)≤len*16384:=Nat.mul_le_mul (many_le _ _ _) (Nat.pow_le_pow_right (n:=2) (by decide) (show 14-n≤14 by omega));unfold kraft;rw[Nat.add_mul,Nat.one_mul];omega
theorem kraft_bound (f:Nat→Int) (len n:Nat) (h:len≤300) (hn:n≤15):kraft f len n≤73728000:=by
 have h1:=kraft_le f len n hn;have h2:n*(len*16384)≤15*(300*16384):=Nat.mul_le_mul hn (Nat.mul_le_mul_right _ h);omega
theorem term_bound (f:Nat→Int) (len n:Nat) (h:len≤300):many f (n+1) len*2^(14-n)≤4915200:=by
 have h2:many f (n+1) len*2^(14-n)≤300*16384:=Nat.mul_le_mul (Nat.le_trans (many_le _ _ _) h) (Nat.pow_le_pow_right (n:=2) (by decide) (show 14-n≤14 by omega));omega
theorem containsV_calls (x:Option Addr) (len cap:Nat) (f:Nat→Int) (w:World) (hx:Ints w x len f) (hl:len≤maxLen):
  Calls Tryz.prog 151 #[.slice x len cap,.func (.func 167) #[] #[]] w fun e w'=>(∃b:Bool,e=.returned (.bool b)∧(b=false↔∀j,j<len→0≤f j∧f j≤15))∧w=w':=by
 have HX:=Hd hx;clear hx;go_enter Tryz.func151,Tryz.ntmps151
 go_wp2_with fail;refine (indexV_calls _ _ _ _ _ HX.out hl).mono ?_;rintro e w1 ⟨⟨i,rfl,hi⟩,rfl⟩;have HI:=Hd hi;clear hi;go_wp2_with fail;go_ret;refine⟨⟨_,rfl,?_⟩,rfl⟩;rcases HI.out with⟨rfl,h⟩ | ⟨h,j,hj,hb⟩
 ·simp;exact h
 ·constructor
  ·intro q;simp at q;omega
  ·intro q;have:=q j hj;omega
theorem valid_calls (x:Option Addr) (len cap:Nat) (f:Nat→Int) (w:World) (hx:Ints w x len f) (hl:len≤maxLen)
  (EB ES:Value) (hB:w.cell? ⟨2,0,none⟩=some EB) (hS:w.cell? ⟨0,0,none⟩=some ES):
  Calls Tryz.prog 147 #[.slice x len cap] w fun e w'=>Ext w w'∧
   ((e=.returned .nilIface∧inBounds f len∧complete f len)∨(e=.returned EB∧¬ inBounds f len)∨(e=.returned ES∧inBounds f len∧¬ complete f len)):=by
 have HX:=Hd hx;have hl2:=hl;unfold maxLen at hl2;clear hx;by_cases h300:300<len
 ·go_enter Tryz.func147,Tryz.ntmps147
  go_wp2
  go_ret;exact⟨Below.refl _ _,.inr (.inl ⟨rfl,fun h=>by have:=h.1;omega⟩)⟩
 go_enter Tryz.func147,Tryz.ntmps147
 go_wp2_with fail;refine (containsV_calls _ _ _ _ _ HX.out hl).mono ?_;rintro e w1 ⟨⟨b,rfl,hb⟩,rfl⟩;cases b with
 | true=>
  have HB:=Hd hb;clear hb;go_wp2_with fail;go_ret;refine⟨Below.refl _ _,.inr (.inl ⟨rfl,fun h=>?_⟩)⟩;have:=HB.out.2 h.2;cases this
 | false=>
  have hbd:inBounds f len:=⟨by omega,hb.1 rfl⟩;have HB:=Hd hbd;clear hb hbd;go_wp2_with fail;refine (words_calls _ _ _ _ _ HX.out hl HB.out.2).mono ?_;rintro e w1 ⟨rfl,rfl⟩;have hst:=run_storeCells_new (P:=Tryz.prog) (w.alloc (.cells (cellsI .i64 16 fun n=>(many f n len:Int)) 229)) 229 (Array.replicate 16 (.int .i64 0)) (cellsI .i64 16 fun n=>(many f n len:Int)) (by rw[cellsI_size];kernel_rfl) (by rw[cellsI_size];rfl) (by simp[cellsI,Value.oneCell']);rw[show (w.alloc (.cells (cellsI .i64 16 fun n=>(many f n len:Int)) 229)).heap.size=w.heap.size+1 by simp] at hst;have hz:=zero16;have hg0:=cellsI_get .i64 16 (fun n=>(many f n len:Int)) 0 (by decide);have hm0:=many_le f 0 len;go_wp2_with fail;clear hst hz;go_loop [5,6] (fun s c=>∃n:Nat,n≤15∧c=.int .i64 (n+1)∧s=.int .i64 (kraft f len n:Int)) (fun _ c=>16-(intOf c).toNat)
  case atStart=>exact⟨0,by omega,rfl,rfl⟩
  case round=>
   obtain⟨n,hn,rfl,rfl⟩:=hrel;by_cases hlt:n<15
   ·have hg:=cellsI_get .i64 16 (fun n=>(many f n len:Int)) (n+1) (by omega);have k1:=kraft_bound f len n (by omega) (by omega);have k2:(0:Int)≤(many f (n+1) len:Int)*2^(14-n)∧(many f (n+1) len:Int)*2^(14-n)≤4915200:=by
     have:=term_bound f len n (by omega);rw[show (many f (n+1) len:Int)*2^(14-n)=((many f (n+1) len*2^(14-n):Nat):Int) by simp];omega
    obtain⟨k3,k4⟩:=k2;go_wp2_with fail;refine⟨⟨n+1,by omega,by go_num,val_int ?_⟩,by simp[intOf];omega⟩;show wrap64 ((kraft f len n:Int)+wrap64 ((many f (n+1) len:Int)*2^(14-n)))=((kraft f len n+many f (n+1) len*2^(14-n):Nat):Int);rw[show ((kraft f len n+many f (n+1) len*2^(14-n):Nat):Int)=(kraft f len n:Int)+(many f (n+1) len:Int)*2^(14-n) by simp];generalize (many f (n+1) len:Int)*2^(14-n)=t at *;unfold wrap64;omega
   ·obtain rfl:n=15:=by omega
    have hx1:Ext w ((w.alloc (.cells (cellsI .i64 16 fun n=>(many f n len:Int)) 229)).alloc (.cells (cellsI .i64 16 fun n=>(many f n len:Int)) 229)):=((Ext.refl w).alloc _).alloc _;have hS2:=(hx1.cell (p:=⟨0,0,none⟩) (World.block_lt_of_cell? w _ hS)).trans hS;have hg1:=cellsI_get .i64 16 (fun n=>(many f n len:Int)) 1 (by omega);have hm1:=many_le f 1 len;have k1:=kraft_bound f len 15 (by omega) (by omega);have HX1:=Hd hx1;clear hx1 hg0;go_wp2_with fail;all_goals (go_ret;refine⟨HX1.out,?_⟩)
    all_goals (first | exact .inl ⟨rfl,HB.out,by unfold complete;(try simp only[beq_iff_eq,beq_eq_false_iff_ne,ne_eq] at *);omega⟩ | exact .inr (.inr ⟨rfl,HB.out,by unfold complete;(try simp only[beq_eq_false_iff_ne,ne_eq] at *);omega⟩))
/-- the first word of each length -/
def first (f:Nat→Int) (len:Nat):Nat→Nat
 | 0=>0
 | 1=>0
 | n+2=>(first f len (n+1)+many f (n+1) len)*2
/-- the word of element i -/
def word (f:Nat→Int) (len i:Nat):Nat:=if 0<f i then first f len (f i).toNat+many f (f i).toNat i else 0
theorem first_succ (f:Nat→Int) (len n:Nat) (h:1≤n):first f len (n+1)=(first f len n+many f n len)*2:=by
 match n,h with
 | n+1,_=>rfl
theorem first_kraft (f:Nat→Int) (len:Nat):∀n,n≤14→first f len (n+1)*2^(14-n)=kraft f len n:=by
 intro n;induction n with
 | zero=>intro _;rfl
 | succ n ih=>
  intro h;have h1:=ih (by omega);show (first f len (n+1)+many f (n+1) len)*2*2^(14-(n+1))=kraft f len n+many f (n+1) len*2^(14-n);rw[← h1,← Nat.add_mul,Nat.mul_assoc,show 14-n=(14-(n+1))+1 by omega,Nat.pow_succ,Nat.mul_comm 2]
theorem many_mono (f:Nat→Int) (n:Nat):∀j i,i≤j→many f n i≤many f n j:=by
 intro j;induction j with
 | zero=>
  intro i h;have:i=0:=by omega
  subst this;exact Nat.le_refl _
 | succ j ih=>
  intro i h;rcases Nat.lt_or_ge i (j+1) with q | q
  ·exact Nat.le_trans (ih i (by omega)) (by show _≤many f n j+_;omega)
  ·have:i=j+1:=by omega
   subst this;exact Nat.le_refl _
theorem many_at (f:Nat→Int) (n i:Nat) (h:f i=n):many f n (i+1)=many f n i+1:=by simp[many,h]
theorem many_not (f:Nat→Int) (n i:Nat) (h:¬ f i=n):many f n (i+1)=many f n i:=by simp[many,h]
theorem many_disj (f:Nat→Int) (n m:Nat) (hnm:n≠m):∀i,many f n i+many f m i≤i:=by
 intro i;induction i with
 | zero=>exact Nat.le_refl _
 | succ i ih=>
  show (many f n i+if f i=n then 1 else 0)+(many f m i+if f i=m then 1 else 0)≤i+1;split <;> split <;> omega
theorem many_three (f:Nat→Int) (n m k:Nat) (h1:n≠m) (h2:n≠k) (h3:m≠k):∀i,many f n i+many f m i+many f k i≤i:=by
 intro i;induction i with
 | zero=>exact Nat.le_refl _
 | succ i ih=>
  show (many f n i+if f i=n then 1 else 0)+(many f m i+if f i=m then 1 else 0)+(many f k i+if f i=k then 1 else 0)≤i+1;split <;> split <;> split <;> omega
theorem kraft_mono (f:Nat→Int) (len:Nat):∀m n,n≤m→kraft f len n≤kraft f len m:=by
 intro m;induction m with
 | zero=>
  intro n h;have:n=0:=by omega
  subst this;exact Nat.le_refl _
 | succ m ih=>
  intro n h;rcases Nat.lt_or_ge n (m+1) with q | q
  ·exact Nat.le_trans (ih n (by omega)) (by show _≤kraft f len m+_;omega)
  ·have:n=m+1:=by omega
   subst this;exact Nat.le_refl _
theorem kraft_zero (f:Nat→Int) (len:Nat) (h:len=many f 0 len):∀n,kraft f len n=0:=by
 intro n;induction n with
 | zero=>rfl
 | succ n ih=>
  have h1:=many_disj f 0 (n+1) (by omega) len;have h2:many f (n+1) len=0:=by omega
  show kraft f len n+many f (n+1) len*_=0;rw[ih,h2];simp
theorem kraft_one (f:Nat→Int) (len:Nat) (h:len=many f 0 len+1) (h1:many f 1 len=1):∀n,kraft f len n≤16384:=by
 intro n;induction n with
 | zero=>exact Nat.zero_le _
 | succ n ih=>
  show kraft f len n+many f (n+1) len*_≤16384;by_cases hn:n=0
  ·subst hn;show 0+many f 1 len*2^14≤_;rw[h1];decide
  ·have h3:=many_three f 0 1 (n+1) (by omega) (by omega) (by omega) len;have h2:many f (n+1) len=0:=by omega
   rw[h2];simpa using ih
/-- words of a length stay below what the length allows -/
theorem room (f:Nat→Int) (len:Nat) (h:complete f len) (n:Nat) (hn:n≤14):first f len (n+1)+many f (n+1) len≤2^(n+1):=by
 have hk:kraft f len (n+1)≤32768:=by
  rcases h with h | ⟨h,h1⟩ | h
  ·rw[kraft_zero f len h];decide
  ·have:=kraft_one f len h h1 (n+1);omega
  ·rw[← h];exact kraft_mono f len 15 (n+1) (by omega)
 have h1:=first_kraft f len n hn;have h2:kraft f len (n+1)=(first f len (n+1)+many f (n+1) len)*2^(14-n):=by
  show kraft f len n+_=_;rw[← h1,Nat.add_mul]
 rw[h2] at hk;have h3:(32768:Nat)=2^(n+1)*2^(14-n):=by rw[← Nat.pow_add,show n+1+(14-n)=15 by omega]
 rw[h3] at hk;exact Nat.le_of_mul_le_mul_right hk (Nat.two_pow_pos _)
theorem room' (f:Nat→Int) (len:Nat) (h:complete f len) (k:Nat) (h1:1≤k) (h2:k≤15):first f len k+many f k len≤2^k:=by
 have:=room f len h (k-1) (by omega);rwa [show k-1+1=k by omega] at this
/-- a word is below its length's room -/
theorem word_lt (f:Nat→Int) (len:Nat) (hc:complete f len) (i k:Nat) (hi:i<len) (hk:f i=k) (h1:1≤k) (h2:k≤15):first f len k+many f k i+1≤first f len k+many f k len∧first f len k+many f k len≤2^k∧(2:Nat)^k≤2^15:=by
 have h:=many_mono f k len (i+1) hi;rw[many_at f k i hk] at h;have hr:=room' f len hc k h1 h2;exact⟨by omega,hr,Nat.pow_le_pow_right (by decide) h2⟩
theorem zero16u (w:World):(zeroValue 231).run Tryz.prog w=.ok (.agg (Array.replicate 16 (.int .u32 0))) w:=by kernel_rfl
theorem u32info:(Tryz.prog.info? 85).map (fun i=>(i.zero,i.size,i.bytes))=some (some (.int .u32 0),1,4):=by kernel_rfl
def U32s (w:World) (x:Option Addr) (len:Nat) (g:Nat→Nat):Prop:=(x=none→len=0)∧∀a,x=some a→∀i,i<len→w.cell? (a.add i)=some (.int .u32 (g i:Int))
theorem codes_good (x:Option Addr) (len cap:Nat) (f:Nat→Int) (w:World) (hx:Ints w x len f) (hl:len≤maxLen) (hb:inBounds f len) (hc:complete f len)
  (EB ES:Value) (hB:w.cell? ⟨2,0,none⟩=some EB) (hS:w.cell? ⟨0,0,none⟩=some ES):
  Calls Tryz.prog 125 #[.slice x len cap] w fun e w'=>Ext w w'∧∃B,w.heap.size≤B∧e=.returned (.tuple #[.slice (some ⟨B,0,none⟩) len len,.nilIface])∧Cs w' B len .u32 (fun i=>(word f len i:Int)):=by
 have HX:=Hd hx;have HB:=Hd hb;have HC:=Hd hc;have h300:=hb.1;clear hb hc;go_enter Tryz.func125,Tryz.ntmps125
 go_wp2_with fail;refine (valid_calls x len cap f w hx hl _ _ hB hS).mono ?_;rintro e w1 ⟨hE,h1 | h1 | h1⟩
 ·obtain⟨rfl,_⟩:=h1;have HX1:=Hd (HX.out.ext hE);have HE:=Hd hE;clear hx hE;go_wp2_with fail;refine (words_calls x len cap f w1 HX1.out hl HB.out.2).mono ?_;rintro e w2 ⟨rfl,rfl⟩;have hst:=run_storeCells_new (P:=Tryz.prog) (w1.alloc (.cells (cellsI .i64 16 fun n=>(many f n len:Int)) 229)) 229 (Array.replicate 16 (.int .i64 0)) (cellsI .i64 16 fun n=>(many f n len:Int)) (by rw[cellsI_size];kernel_rfl) (by rw[cellsI_size];rfl) (by simp[cellsI,Value.oneCell']);rw[show (w1.alloc (.cells (cellsI .i64 16 fun n=>(many f n len:Int)) 229)).heap.size=w1.heap.size+1 by simp] at hst;have hz:=zero16;have hzu:=zero16u;go_wp2_with fail;clear hst hz hzu;rw[cellsI_zero];have f1:=Cs.born w1 .i64 16 (fun n=>(many f n len:Int)) 229;have f2:=Cs.born (w1.alloc (.cells (cellsI .i64 16 fun n=>(many f n len:Int)) 229)) .i64 16 (fun n=>(many f n len:Int)) 229;have f3:=Cs.born ((w1.alloc (.cells (cellsI .i64 16 fun n=>(many f n len:Int)) 229)).alloc (.cells (cellsI .i64 16 fun n=>(many f n len:Int)) 229)) .u32 16 (fun _=>0) 231;have g2:=f2.alloc (by simp) (.cells (cellsI .u32 16 fun _=>0) 231);have hE3:Ext w (((w1.alloc (.cells (cellsI .i64 16 fun n=>(many f n len:Int)) 229)).alloc (.cells (cellsI .i64 16 fun n=>(many f n len:Int)) 229)).alloc (.cells (cellsI .u32 16 fun _=>0) 231)):=((HE.out.alloc _).alloc _).alloc _
  have G2:Hid (Cs (((w1.alloc (.cells (cellsI .i64 16 fun n=>(many f n len:Int)) 229)).alloc (.cells (cellsI .i64 16 fun n=>(many f n len:Int)) 229)).alloc (.cells (cellsI .u32 16 fun _=>0) 231)) (w1.heap.size+1) 16 .i64 (fun n=>(many f n len:Int))):=Hd (by simpa using g2);have G3:Hid (Cs (((w1.alloc (.cells (cellsI .i64 16 fun n=>(many f n len:Int)) 229)).alloc (.cells (cellsI .i64 16 fun n=>(many f n len:Int)) 229)).alloc (.cells (cellsI .u32 16 fun _=>0) 231)) (w1.heap.size+1+1) 16 .u32 (fun _=>0)):=Hd (by simpa using f3);have H3:=Hd hE3;have hw1:w.heap.size≤w1.heap.size:=HE.out.size;clear f1 f2 f3 g2 hE3;generalize (((w1.alloc (.cells (cellsI .i64 16 fun n=>(many f n len:Int)) 229)).alloc (.cells (cellsI .i64 16 fun n=>(many f n len:Int)) 229)).alloc (.cells (cellsI .u32 16 fun _=>0) 231))=w3 at *;go_loopw [7] (fun v wr=>∃n:Nat,1≤n∧n≤15∧v=.int .i64 (n+1)∧Hid (Cs wr (w1.heap.size+1) 16 .i64 (fun n=>(many f n len:Int)))∧Hid (Cs wr (w1.heap.size+1+1) 16 .u32 (fun k=>if k≤n then (first f len k:Int) else 0))∧Hid (Below w.heap.size w wr)) (fun v _=>16-(intOf v).toNat)
  case atStart=>
   refine⟨1,by omega,by omega,rfl,G2,?_,H3⟩;have:(fun k:Nat=>if k≤1 then (first f len k:Int) else 0)=fun _=>0:=by
    funext k
    match k with
    | 0=>rfl
    | 1=>rfl
    | k+2=>simp
   rw[this];exact G3
  case round=>
   obtain⟨n,hn1,hn,rfl,HM,HN,HW⟩:=hrel;by_cases hlt:n<15
   ·obtain⟨c1,_⟩:=HM.out n (by omega);have c2:wr.cell? ⟨w1.heap.size+1+1,n,none⟩=some (.int .u32 (first f len n:Int)):=by have:=(HN.out n (by omega)).1;simpa using this
    have c3:wr.cell? ⟨w1.heap.size+1+1,n+1,none⟩=some (.int .u32 0):=by have:=(HN.out (n+1) (by omega)).1;simpa [show ¬ n+1≤n by omega] using this
    have c4:=(HN.out (n+1) (by omega)).2;have hroom:first f len n+many f n len≤2^n:=by
     have:=room f len HC.out (n-1) (by omega);rwa [show n-1+1=n by omega] at this
    have hp:2^n≤2^14:=Nat.pow_le_pow_right (by decide) (by omega);have b1:first f len n+many f n len≤16384:=by omega
    clear hroom hp;go_wp2_with fail;go_region;go_wp2_with fail;have e1:(((first f len n:Nat):Int)+(many f n len:Int))*2=(first f len (n+1):Int):=by rw[first_succ f len n hn1];omega
    rw[e1];refine⟨⟨n+1,by omega,by omega,by go_num,Hd ?_,Hd ?_,Hd ?_⟩,by simp[intOf];omega⟩
    ·exact (HM.out.other _ _ (by show w1.heap.size+1+1≠w1.heap.size+1;omega)).drew
    ·refine (HN.out.put (n+1) _ _ (by omega) ?_).drew;intro k hk;by_cases e:k=n+1
     ·subst e;simp
     ·rw[if_neg e];by_cases e2:k≤n
      ·rw[if_pos e2,if_pos (by omega)]
      ·rw[if_neg e2,if_neg (by omega)]
    ·exact (HW.out.setCell (by show w.heap.size≤w1.heap.size+1+1;omega) _).drew
   ·obtain rfl:n=15:=by omega
    have hmk:=run_make_row' (P:=Tryz.prog) 178 85 (.int .u32 0) 4 Tryz.underlying178 u32info rfl .i64 .i64 len (by omega) (by omega);have hlt2:w1.heap.size+1+1<wr.heap.size:=World.block_lt_of_cell? wr _ (HN.out 0 (by omega)).1;go_wp2_with fail;rw[made_eq];clear hmk;have H1:=Hd (Cs.born wr .u32 len (fun _=>0) 85);have H2:=Hd (HN.out.alloc hlt2 (.cells (cellsI .u32 len fun _=>0) 85));have H4:=Hd (HW.out.alloc HW.out.size (.cells (cellsI .u32 len fun _=>0) 85));have hwr:w.heap.size≤wr.heap.size:=HW.out.size;generalize (wr.alloc (.cells (cellsI .u32 len fun _=>0) 85))=w4 at *;clear HM HN HW G2 G3 H3;generalize wr.heap.size=BO at *;clear wr;go_loopw [9,10,40] (fun _ _ v wr=>∃i:Nat,i≤len∧v=.int .i64 i∧Hid (Cs wr (w1.heap.size+1+1) 16 .u32 (fun k=>if k=0 then 0 else ((first f len k+many f k i:Nat):Int)))∧Hid (Cs wr BO len .u32 (fun j=>if j<i then (word f len j:Int) else 0))∧Hid (Below w.heap.size w wr)) (fun _ _ v _=>len-(intOf v).toNat)
    case atStart=>
     refine⟨0,by omega,rfl,Hd (H2.out.congr ?_),Hd (H1.out.congr ?_),H4⟩
     ·intro k hk;by_cases e:k=0
      ·subst e;rfl
      ·rw[if_neg e,if_pos (by omega)];rfl
     ·intro j hj;rw[if_neg (by omega)]
    case round=>
     obtain⟨i,hi,rfl,HN,HO,HW⟩:=hrel;by_cases hlt:i<len
     ·obtain⟨a,rfl⟩:∃a,x=some a:=by
       cases x with
       | none=>have:=HX.out.1 rfl;omega
       | some a=>exact⟨a,rfl⟩
      have hab:=HX.out.block (by omega);obtain⟨hc,h1,h2⟩:=(HX.out.on (S:=fun k=>w.heap.size≤k) (Keeps.of_below HW.out) (fun b hb=>by injection hb with hb;subst hb;show ¬ _≤_;omega)).2 a rfl i hlt;obtain⟨q1,q2⟩:=HB.out.2 i hlt;obtain⟨k,hk⟩:∃k:Nat,f i=k:=⟨(f i).toNat,by omega⟩;have HK:=Hd hk;rw[hk] at hc h1 h2 q1 q2;clear hk;by_cases hk0:k=0
      ·subst hk0;go_wp2_with fail;refine⟨⟨i+1,by omega,by go_num,Hd (HN.out.congr ?_),Hd (HO.out.congr ?_),HW⟩,by simp[intOf];omega⟩
       ·intro k hk;by_cases e:k=0
        ·rw[if_pos e,if_pos e]
        ·rw[if_neg e,if_neg e,many_not f k i (by have:=HK.out;omega)]
       ·intro j hj;by_cases e:j=i
        ·subst e;have:¬ 0<f j:=by have:=HK.out;omega
         simp[word,this]
        ·by_cases e2:j<i
         ·rw[if_pos e2,if_pos (by omega)]
         ·rw[if_neg e2,if_neg (by omega)]
      ·have c1:wr.cell? ⟨w1.heap.size+1+1,k,none⟩=some (.int .u32 ((first f len k+many f k i:Nat):Int)):=by have:=(HN.out k (by omega)).1;simpa [hk0] using this
       have c2:=(HN.out k (by omega)).2;have c3:=(HO.out i hlt).1;have c4:=(HO.out i hlt).2;obtain⟨w1',w2',w3'⟩:=word_lt f len HC.out i k hlt HK.out (by omega) (by omega);have wb:first f len k+many f k i+1≤32768:=by omega
       clear w1' w2' w3';go_wp2_with fail;have e1:((first f len k:Nat):Int)+(many f k i:Int)+1=((first f len k+many f k (i+1):Nat):Int):=by rw[many_at f k i HK.out];omega
       have e2:((first f len k:Nat):Int)+(many f k i:Int)=(word f len i:Int):=by
        have h0:0<f i:=by have:=HK.out;omega
        have h3:(f i).toNat=k:=by have:=HK.out;omega
        unfold word;rw[if_pos h0,h3];omega
       rw[e1,e2];refine⟨⟨i+1,by omega,by go_num,Hd ?_,Hd ?_,Hd ?_⟩,by simp[intOf];omega⟩
       ·refine (HN.out.other _ _ (by show BO≠_;omega)).put k _ _ (by omega) ?_;intro m hm;by_cases e:m=k
        ·subst e;simp[hk0]
        ·rw[if_neg e];by_cases e2:m=0
         ·rw[if_pos e2,if_pos e2]
         ·rw[if_neg e2,if_neg e2,many_not f m i (by have:=HK.out;omega)]
       ·refine (HO.out.put i _ _ hlt ?_).other _ _ (by show w1.heap.size+1+1≠_;omega);intro j hj;by_cases e:j=i
        ·subst e;simp
        ·rw[if_neg e];by_cases e2:j<i
         ·rw[if_pos e2,if_pos (by omega)]
         ·rw[if_neg e2,if_neg (by omega)]
       ·exact (HW.out.setCell (by show w.heap.size≤BO;omega) _).setCell (by show w.heap.size≤w1.heap.size+1+1;omega) _
     ·obtain rfl:i=len:=by omega
      go_wp2_with fail;exact bodyPost_ret (v:=.tuple #[.slice (some ⟨BO,0,none⟩) i i,.nilIface]) (by simp[results,Tryz.results125,go_sem, *]) rfl ⟨HW.out,BO,hwr,rfl,HO.out.congr fun j hj=>by rw[if_pos hj]⟩
 ·exact absurd HB.out h1.2
 ·exact absurd HC.out h1.2.2
end Go.Proofs.YthlibiocadimhaaGreatDoor
namespace Crc
def T (c:Nat):Nat:=(c/2) ^^^ (if c%2=1 then 3988292384 else 0)
def Tn:Nat→Nat→Nat
 | 0,c=>c
 | n+1,c=>Tn n (T c)
theorem xor_half (a b:Nat):(a ^^^ b)/2=a/2 ^^^ b/2:=by
 apply Nat.eq_of_testBit_eq;intro i;simp[Nat.testBit_xor,Nat.testBit_div_two]
theorem xor_low (a b:Nat):(a ^^^ b)%2=(a%2+b%2)%2:=by
 have h:=Nat.xor_mod_two_pow (a:=a) (b:=b) (n:=1);rw[show 2^1=2 from rfl] at h;rw[h];rcases Nat.mod_two_eq_zero_or_one a with h | h <;> rcases Nat.mod_two_eq_zero_or_one b with k | k <;> rw[h,k] <;> rfl
theorem T_xor (a b:Nat):T (a ^^^ b)=T a ^^^ T b:=by
 unfold T;rw[xor_half,xor_low];rcases Nat.mod_two_eq_zero_or_one a with h | h <;> rcases Nat.mod_two_eq_zero_or_one b with k | k <;> simp[h,k]
 ·rw[Nat.xor_assoc]
 ·rw[Nat.xor_assoc,Nat.xor_assoc,Nat.xor_comm _ (b/2)]
 ·rw[show a/2 ^^^ 3988292384 ^^^ (b/2 ^^^ 3988292384)=(a/2 ^^^ b/2) ^^^ (3988292384 ^^^ 3988292384) by ac_rfl,Nat.xor_self,Nat.xor_zero]
theorem Tn_xor (n a b:Nat):Tn n (a ^^^ b)=Tn n a ^^^ Tn n b:=by
 induction n generalizing a b with
 | zero=>rfl
 | succ n ih=>simp only[Tn];rw[T_xor,ih]
theorem Tn_succ (n c:Nat):Tn (n+1) c=T (Tn n c):=by
 induction n generalizing c with
 | zero=>rfl
 | succ n ih=>show Tn (n+1) (T c)=_;rw[ih];rfl
theorem T_lt {c:Nat} (h:c<2^32):T c<2^32:=by
 unfold T;exact Nat.xor_lt_two_pow (by omega) (by split <;> omega)
theorem Tn_lt {n c:Nat} (h:c<2^32):Tn n c<2^32:=by
 induction n generalizing c with
 | zero=>exact h
 | succ n ih=>exact ih (T_lt h)
theorem T_even (c:Nat):T (2*c)=c:=by unfold T;simp
theorem T8_high (h:Nat):Tn 8 (256*h)=h:=by
 simp only[Tn];rw[show 256*h=2*(2*(2*(2*(2*(2*(2*(2*h))))))) by omega];simp only[T_even]
theorem split8 (c:Nat):c=(256*(c/256)) ^^^ (c%256):=by
 have h:=Nat.two_pow_add_eq_or_of_lt (i:=8) (b:=c%256) (Nat.mod_lt _ (by decide)) (c/256);apply Nat.eq_of_testBit_eq;intro i;rw[Nat.testBit_xor];have e1:(256*(c/256)).testBit i=(decide (8≤i)&&c.testBit i):=by
  rw[show (256:Nat)=2^8 from rfl,Nat.testBit_two_pow_mul,Nat.testBit_div_two_pow];by_cases hi:8≤i
  ·simp[hi]
  ·simp[hi]
 have e2:(c%256).testBit i=(decide (i<8)&&c.testBit i):=by
  rw[show (256:Nat)=2^8 from rfl,Nat.testBit_mod_two_pow]
 rw[e1,e2];by_cases hi:8≤i
 ·simp[hi,show ¬ i<8 by omega]
 ·simp[hi,show i<8 by omega]
theorem T8_split (c:Nat):Tn 8 c=Tn 8 (c%256) ^^^ (c/256):=by
 conv=>lhs;rw[split8 c]
 rw[Tn_xor,T8_high,Nat.xor_comm]
theorem xor_byte_mod (c b:Nat) (hb:b<256):(c ^^^ b)%256=(c%256) ^^^ b:=by
 rw[show (256:Nat)=2^8 from rfl,Nat.xor_mod_two_pow,Nat.mod_eq_of_lt (a:=b) hb]
theorem xor_byte_div (c b:Nat) (hb:b<256):(c ^^^ b)/256=c/256:=by
 rw[show (256:Nat)=2^8 from rfl,Nat.xor_div_two_pow,Nat.div_eq_of_lt (a:=b) hb,Nat.xor_zero]
/-- one byte -/
def byte (c b:Nat):Nat:=Tn 8 (c ^^^ b)
theorem byte_tab (c b:Nat) (hb:b<256):byte c b=Tn 8 (c%256 ^^^ b) ^^^ (c/256):=by
 unfold byte;rw[T8_split,xor_byte_mod c b hb,xor_byte_div c b hb]
theorem byte_lt {c b:Nat} (hc:c<2^32) (hb:b<256):byte c b<2^32:=Tn_lt (Nat.xor_lt_two_pow hc (by omega))
def run (c:Nat) (l:List UInt8):Nat:=l.foldl (fun c b=>byte c b.toNat) c
theorem run_lt {c:Nat} (hc:c<2^32) (l:List UInt8):run c l<2^32:=by
 induction l generalizing c with
 | nil=>exact hc
 | cons b l ih=>exact ih (byte_lt hc b.toNat_lt)
def flip (c:Nat):Nat:=c ^^^ 4294967295
theorem flip_lt {c:Nat} (hc:c<2^32):flip c<2^32:=Nat.xor_lt_two_pow hc (by omega)
def more (c:Nat) (l:List UInt8):Nat:=flip (run (flip c) l)
def crc (l:List UInt8):Nat:=more 0 l
end Crc
namespace Crc
/-- the number whose digits to base 256 are the bytes, the lowest first -/
def num:List UInt8→Nat
  | []=>0
  | b ::l=>b.toNat+256*num l
theorem num_cons (b:UInt8) (l:List UInt8):num (b ::l)=b.toNat ^^^ (256*num l):=by
  have h:=split8 (num (b ::l));have hb:b.toNat<256:=b.toNat_lt;have e1:num (b ::l)/256=num l:=by show (b.toNat+256*num l)/256=_;omega
  have e2:num (b ::l)%256=b.toNat:=by show (b.toNat+256*num l)%256=_;omega
  rw[e1,e2,Nat.xor_comm] at h;exact h
theorem num_lt (l:List UInt8):num l<2^(8*l.length):=by
  induction l with
  | nil=>simp[num]
  | cons b l ih=>
    have hb:b.toNat<256:=b.toNat_lt;rw[List.length_cons,show 8*(l.length+1)=8*l.length+8 by omega,Nat.pow_add];show b.toNat+256*num l<_;omega
theorem num_inj:∀(l m:List UInt8),l.length=m.length→num l=num m→l=m
  | [],[],_,_=>rfl
  | [],_ ::_,h,_=>by simp at h
  | _ ::_,[],h,_=>by simp at h
  | a ::l,b ::m,h,e=>by
    have ha:a.toNat<256:=a.toNat_lt;have hb:b.toNat<256:=b.toNat_lt;have e':a.toNat+256*num l=b.toNat+256*num m:=e;have h1:a.toNat=b.toNat:=by omega
    have h2:num l=num m:=by omega
    rw[UInt8.toNat_inj.1 h1,num_inj l m (by simpa using h) h2]
theorem num_set (l:List UInt8):∀(j:Nat) (c:UInt8),(hj:j<l.length)→num (l.set j c)=num l ^^^ ((l[j].toNat ^^^ c.toNat)*256^j):=by
  induction l with
  | nil=>intro j c hj;simp at hj
  | cons b l ih=>
    intro j c hj;cases j with
    | zero=>
      simp only[List.set_cons_zero,List.getElem_cons_zero,Nat.pow_zero,Nat.mul_one];rw[num_cons,num_cons,show b.toNat ^^^ 256*num l ^^^ (b.toNat ^^^ c.toNat)=(b.toNat ^^^ b.toNat) ^^^ (c.toNat ^^^ 256*num l) by ac_rfl,Nat.xor_self,Nat.zero_xor]
    | succ j=>
      simp only[List.set_cons_succ,List.getElem_cons_succ];rw[num_cons,num_cons,ih j c (by simpa using hj),Nat.xor_assoc];congr 1
      rw[show (256:Nat)=2^8 from rfl,Nat.mul_comm,Nat.mul_comm (2^8) (num l),← Nat.shiftLeft_eq,← Nat.shiftLeft_eq,Nat.shiftLeft_xor_distrib,Nat.shiftLeft_eq,Nat.shiftLeft_eq];congr 1
      rw[Nat.mul_assoc,← Nat.pow_succ]
end Crc
