/-
  png.Rows.
  png.reader in memory, with the builder that lies in it: WriteString, String.
  Pictures as files, plain: rows of numbers, packed. No function of the program is named.
  Symbols of a code in the order of their words. No program's function is named.
  Rows of ints as values; no word of a code begins another one. No function of the program is named.
  The symbol that comes next: plain laws. No function of the program is named.
  The document's word on lengths.
  huff.Read: a tree of a code.
  Put, and what else a writer does: contracts in terms of its number and its count.
  A reader of bits: contracts in terms of its text's number and its place.
  Get where it cannot: too wide, or no more bits.
  A writer that is new; what a writer, a reader did touched only new blocks. No function of the program is named.
-/
import Derived.Test.YthlibiocadimhaaGreatDoorPngTwiceG1
import Derived.Test.YthlibiocadimhaaGreatDoorPngTwiceG2
import Derived.Test.YthlibiocadimhaaGreatDoorPngTwiceG3
import Derived.Laws.AppendOwnNone
import Derived.Outline
set_option linter.unusedSimpArgs false
set_option linter.unusedVariables false
set_option maxRecDepth 100000
namespace Go.Proofs.YthlibiocadimhaaGreatDoor
open Go.RowKit
namespace Png
def u8i (c:Int):UInt8:=UInt8.ofNat c.toNat
theorem u8i_val {c:Int} (h:Pix.Byte c):((u8i c).toNat:Int)=c:=by
 have h1:=h.1;have h2:=h.2;unfold u8i;rw[UInt8.toNat_ofNat'];omega
def p4B (p:P4):List UInt8:=[u8i p.r,u8i p.g,u8i p.b,u8i p.a]
theorem p4B_val {p:P4} (h:p.Ok):bytesV (p4B p)=[.int .u8 p.r,.int .u8 p.g,.int .u8 p.b,.int .u8 p.a]:=by
 unfold bytesV p4B;simp only[List.map_cons,List.map_nil,u8i_val h.r,u8i_val h.g,u8i_val h.b,u8i_val h.a]
/-- bytes of pixels -/
def rawL (px:Nat→P4):Nat→List UInt8
 | 0=> []
 | k+1=>rawL px k++p4B (px k)
theorem rawL_len (px:Nat→P4):∀k,(rawL px k).length=4*k
 | 0=>rfl
 | k+1=>by
  show (rawL px k++p4B (px k)).length=_;rw[List.length_append,rawL_len px k];show 4*k+4=_;omega
theorem rawL_push {px:Nat→P4} {k:Nat} {p:P4} (h:p.Ok) (e:px k=p):bytesV (rawL px (k+1))=bytesV (rawL px k) ++ [.int .u8 p.r,.int .u8 p.g,.int .u8 p.b,.int .u8 p.a]:=by
 subst e;show bytesV (rawL px k++p4B (px k))=_;unfold bytesV;rw[List.map_append];exact congrArg _ (p4B_val h)
end Png
/-- the state of png.Rows -/
structure RwS (w:World) (W H:Int) (x:Value) (px:Nat→P4) (wr:World) (v:Value) (k:Nat):Prop where
 ext:Ext w wr
 pic:PicAt wr w.heap.size W H x
 own:wr.ownsRow (w.heap.size+1) 5 1 v (4*k) (bytesV (Png.rawL px k))
 hs:w.heap.size+1≤wr.heap.size
theorem RwS.start (w:World) (W H:Int) (x:Value) (px:Nat→P4) (t:TypeId):RwS w W H x px (w.alloc (.cells #[.int .i64 W,.int .i64 H,x] t)) (.slice none 0 0) 0:=
 ⟨(Ext.refl _).alloc _,PicAt.new w W H x t,World.ownsRow_nil _ _ _ _,by simp⟩
theorem RwS.step {w:World} {W H:Int} {x:Value} {px:Nat→P4} {wr wz:World} {v:Value} {k:Nat} (h:RwS w W H x px wr v k) (hE:Ext wr wz):RwS w W H x px wz v k:=
 ⟨h.ext.trans hE,h.pic.ext hE,ownsRow_kept (S:=fun _=>False) h.own hE.keeps (fun _ _=>id),Nat.le_trans h.hs hE.size⟩
theorem RwS.grown {w:World} {W H:Int} {x:Value} {px:Nat→P4} {wr wz:World} {v v':Value} {k:Nat} {p:P4} {o:Obj} (h:RwS w W H x px wr v k) (hp:p.Ok) (hpx:px k=p) (hown:wz.ownsRow (w.heap.size+1) 5 1 v' (4*k+4) (bytesV (Png.rawL px k) ++ [.int .u8 p.r,.int .u8 p.g,.int .u8 p.b,.int .u8 p.a])) (hg:(wr.alloc o).grownBy wz v.ownBlock):RwS w W H x px wz v' (k+1):=by
 have hs:=h.hs;have hK:Keeps (fun k=>v.ownBlock=some k) wr wz:=(Keeps.alloc (Ext.keeps (S:=fun i=>v.ownBlock=some i) (Ext.refl wr)) o).trans (Keeps.grown hg) (fun _ _ q=>q);have nb:∀k,k<w.heap.size+1→¬ v.ownBlock=some k:=fun k hk e=>by have:=(h.own.lt k e).1;omega
 refine⟨Below.trans h.ext (hK.below h.ext.size (fun k hk q=>by have:=(h.own.lt k q).1;omega)),?_,?_,Nat.le_trans h.hs hK.size⟩
 ·exact⟨(hK.cell (p:=⟨w.heap.size,0,none⟩) (by show w.heap.size<_;omega) (nb _ (by show w.heap.size<_;omega))).trans h.pic.c0,(hK.cell (p:=⟨w.heap.size,1,none⟩) (by show w.heap.size<_;omega) (nb _ (by show w.heap.size<_;omega))).trans h.pic.c1,(hK.cell (p:=⟨w.heap.size,2,none⟩) (by show w.heap.size<_;omega) (nb _ (by show w.heap.size<_;omega))).trans h.pic.c2⟩
 ·rw[Png.rawL_push hp hpx];exact hown
theorem own_lit4 {w:World} {base:Nat} {e:TypeId} {size:Nat} {v:Value} {n:Nat} {xs:List Value} (h:w.ownsRow base e size v n xs):∃x c,v=.slice x n c:=by
 rcases ownsRow_slice h with⟨h1,h2⟩ | ⟨g,cap,h1⟩
 ·exact⟨none,0,by rw[h1,h2]⟩
 ·exact⟨_,cap,h1⟩
set_option maxHeartbeats 4000000 in
theorem pngRows_any (W H:Nat) (x:Option Addr) (n cap:Nat) (px:Nat→P4) (w:World) (E:Nat→Addr) (hE:Errs w E) (hx:Pxs w x n px) (hn:n≤70000) (hWH:n=H*W) (hW:1≤W∧W≤256):
  Calls Tryz.prog 22 #[.agg #[.int .i64 (W:Int),.int .i64 (H:Int),.slice x n cap]] w fun e w'=>e=.returned (.string (tx (rowsL (tx (Png.rawL px n)) (4*W) 4 H)))∧Ext w w':=by
 have HX:=Hd hx;have HER:=Hd hE;have HWH:=Hd hWH;obtain⟨i0,hi0,hz0,hz1,hz2⟩:=info_parts byteinfo;clear hx hE hWH;go_enter Tryz.func22,Tryz.ntmps22
 go_wp2_with fail;refine wp_world (fun wz=>RwS w (W:Int) (H:Int) (.slice x n cap) px wz (.slice none 0 0) 0) (RwS.start w _ _ _ _ _) ?_;intro wz hP;have c0:=hP.pic.c2;have HP:=Hd hP;clear hP;go_wp2_with fail;clear c0;go_loopw [3,11] (fun lv iv wr=>∃k:Nat,iv=.int .i64 (k:Int)∧k≤n∧Hid (RwS w (W:Int) (H:Int) (.slice x n cap) px wr lv k)) (fun _ iv _=>n-(intOf iv).toNat)
 case atStart=>exact⟨0,rfl,by omega,HP⟩
 case round=>
  clear HP;obtain⟨k,rfl,hk,HP⟩:=hrel;by_cases hlt:k<n
  ·have t0:decide ((k:Int)<(n:Int))=true:=decide_eq_true (by omega);obtain⟨A,rfl⟩:=HX.out.isSome hlt;obtain⟨q,hq⟩:∃q,px k=q:=⟨_,rfl⟩;have HQ:=Hd hq;obtain⟨c0,c1,c2,c3,hok⟩:=(HX.out.ext HP.out.ext).2 A rfl k hlt;rw[hq] at c0 c1 c2 c3 hok;have HOK:=Hd hok;clear hok hq;have hki:(0:Int)≤(k:Int):=by omega
   have hkn:(k:Int)<(n:Int):=by omega
   obtain⟨y1,c9,rfl⟩:=own_lit4 HP.out.own;obtain⟨N,hN⟩:∃N,4*k=N:=⟨_,rfl⟩;have hNk:N≤280000:=by omega
   have HNN:=Hd hN;rw[hN] at⊢;clear hN;have S2:=Hd (HP.out.step ((Ext.refl wr).alloc (.cells #[.int .u8 q.r,.int .u8 q.g,.int .u8 q.b,.int .u8 q.a] 53)));have hzb:=S2.out.hs;have HRow:=Hd (show (wr.alloc (.cells #[.int .u8 q.r,.int .u8 q.g,.int .u8 q.b,.int .u8 q.a] 53)).ownsRow (w.heap.size+1) 5 1 (.slice y1 N c9) N (bytesV (Png.rawL px k)) from by have:=S2.out.own;rw[HNN.out] at this;exact this);go_wp2_with (at_builtin;refine wpList_append_own_at _ rfl _ _ 62 rfl (w.heap.size+1) 5 i0 _ 1 1 Tryz.underlying62 hi0 hz0 hz1 hz2 rfl (by decide) _ _ _ rfl (HRow.out.alloc _) ⟨wr.heap.size+1,0,none⟩ 4 4 [.int .u8 q.r,.int .u8 q.g,.int .u8 q.b,.int .u8 q.a] rfl rfl ?c1 ?c2 ?c3 ?c4 ?c5 ?_)
   case c1=>
    intro j u hu;rw[add_plain];have e:=World.size_alloc wr (.cells #[.int .u8 q.r,.int .u8 q.g,.int .u8 q.b,.int .u8 q.a] 53);rw[← e];exact (Bk.at rfl).cell j |>.trans (by simpa using hu)
   case c2=>intro u hu;simp at hu;rcases hu with hu | hu | hu | hu <;> (subst hu;rfl)
   case c3=>unfold maxLen;omega
   case c4=>omega
   case c5=>rw[World.size_alloc];omega
   intro v7 w7 hown hgrow _ hat;have S7:=Hd (S2.out.grown (p:=q) HOK.out HQ.out (by rw[HNN.out];exact hown) (by rw[HNN.out];exact hgrow));clear hown hgrow hat HRow S2 c0 c1 c2 c3 hzb;go_wp2_with fail;go_roundw
   case rel=>exact⟨k+1,by go_num,by omega,S7⟩
   case measure=>simp[intOf];omega
  ·obtain rfl:k=n:=by omega
   have hc:=bytes_conv (Png.rawL_len px k) HP.out.own;have p0:=HP.out.pic.c0;obtain⟨T,hT⟩:∃T,tx (Png.rawL px k)=T:=⟨_,rfl⟩;rw[hT] at hc;have HTT:=Hd hT;have hTs:T.size=4*k:=by rw[← hT];exact (tx_size _).trans (Png.rawL_len px k)
   have HT:=Hd hTs;clear hTs hT;obtain⟨M,hM⟩:∃M:Nat,4*W=M:=⟨_,rfl⟩;have hM4:(4:Int)*(W:Int)=(M:Int):=by omega
   have HM:=Hd hM;clear hM;have HRW:=Hd (rows_ok T M 4 H wr E (HER.out.ext HP.out.ext) (by rw[HT.out,HWH.out,← HM.out,← Nat.mul_assoc,Nat.mul_comm 4 H,Nat.mul_assoc]) (by have:=HM.out;omega) (by omega) (by rw[HT.out];omega));go_wp2_with fail;refine HRW.out.mono ?_;rintro e w9 ⟨rfl,hx9⟩;have HX9:=Hd (HP.out.ext.trans hx9);clear hx9;go_wp2_with fail;go_ret;exact⟨by rw[HTT.out,HM.out];rfl,HX9.out⟩
/-- what a reader holds -/
structure Rd where
 wide:Nat
 high:Nat
 depth:Nat
 kind:Nat
 colors:ByteArray
 alphas:ByteArray
 hc:Bool
 ha:Bool
 data:List UInt8
 st:Nat
def rdV (r:Rd) (p v:Value):Array Value:=#[.int .i64 (r.wide:Int),.int .i64 (r.high:Int),.int .i64 (r.depth:Int),.int .i64 (r.kind:Int),.string r.colors,.string r.alphas,.bool r.hc,.bool r.ha,p,v,.int .i64 (r.st:Int)]
/-- a reader in block b, its bytes at or above B -/
structure RdAt (B b:Nat) (r:Rd) (w:World):Prop where
 le:B≤b
 at_:∃p v,(p=.pointer none∨p=.pointer (some ⟨b,8,none⟩))∧w.heap[b]? =some (.cells (rdV r p v) 72 (0,0))∧w.ownsRow B 5 1 v r.data.length (Lib.byteCells r.data)∧(v=.slice none 0 0↔r.data=[])
theorem RdAt.lt {B b:Nat} {r:Rd} {w:World} (h:RdAt B b r w):b<w.heap.size:=by
 obtain⟨_,p,v,_,hb,_⟩:=h;exact lt_of_block hb
theorem RdAt.ext {B b:Nat} {r:Rd} {w w':World} (h:RdAt B b r w) (hE:Ext w w'):RdAt B b r w':=by
 have hl:=h.lt;obtain⟨h1,p,v,hp,hb,ho⟩:=h;exact⟨h1,p,v,hp,(hE.block b hl).trans hb,ownsRow_kept ho.1 (S:=fun _=>False) hE.keeps (fun _ _ q=>q),ho.2⟩
theorem RdAt.cells {B b:Nat} {r:Rd} {w:World} (h:RdAt B b r w):∃p v,(p=.pointer none∨p=.pointer (some ⟨b,8,none⟩))∧Bk w b (rdV r p v)∧w.ownsRow B 5 1 v r.data.length (Lib.byteCells r.data):=by
 obtain⟨_,p,v,hp,hb,ho⟩:=h;exact⟨p,v,hp,⟨_,hb⟩,ho.1⟩
/-- the fields that are no builder -/
theorem RdAt.flds {B b:Nat} {r:Rd} {w:World} (h:RdAt B b r w):w.cell? ⟨b,0,none⟩=some (.int .i64 (r.wide:Int))∧w.cell? ⟨b,1,none⟩=some (.int .i64 (r.high:Int))∧w.cell? ⟨b,2,none⟩=some (.int .i64 (r.depth:Int))∧w.cell? ⟨b,3,none⟩=some (.int .i64 (r.kind:Int))∧w.cell? ⟨b,4,none⟩=some (.string r.colors)∧w.cell? ⟨b,5,none⟩=some (.string r.alphas)∧w.cell? ⟨b,6,none⟩=some (.bool r.hc)∧w.cell? ⟨b,7,none⟩=some (.bool r.ha)∧w.cell? ⟨b,10,none⟩=some (.int .i64 (r.st:Int)):=by
 obtain⟨p,v,_,hB,_⟩:=h.cells;exact⟨hB.cell 0,hB.cell 1,hB.cell 2,hB.cell 3,hB.cell 4,hB.cell 5,hB.cell 6,hB.cell 7,hB.cell 10⟩
theorem RdAt.froz {B b:Nat} {r:Rd} {w:World} (h:RdAt B b r w) (i:Nat):w.frozen? ⟨b,i,none⟩=false:=by
 obtain⟨p,v,_,hB,_⟩:=h.cells;exact hB.frozen i
theorem rd_ne {w:World} {B b:Nat} {v:Value} {n:Nat} {xs:List Value} {cs:Array Value} (ho:w.ownsRow B 5 1 v n xs) (hb:w.heap[b]? =some (.cells cs 72 (0,0))):v.ownBlock≠some b:=Lib.ownBlock_ne ho hb (by decide)
theorem set_block {w:World} {b:Nat} {cs:Array Value} {T:TypeId} (hb:w.heap[b]? =some (.cells cs T (0,0))) (i:Nat) (u:Value):(w.setCell ⟨b,i,none⟩ u).heap[b]? =some (.cells (cs.setIfInBounds i u) T (0,0)):=by
 simp[World.setCell,Array.getElem?_modify,hb]
theorem one_keep (w:World) (b i:Nat) (u:Value):Keeps (fun k=>k=b) w (w.setCell ⟨b,i,none⟩ u):=(Keeps.refl (fun k=>k=b) w).setCell (.inl rfl) _
/-- one field is stored -/
theorem RdAt.put {B b:Nat} {r r':Rd} {w:World} (h:RdAt B b r w) (i:Nat) (u:Value) (hi:∀p v,(rdV r p v).setIfInBounds i u=rdV r' p v) (hd:r'.data=r.data):RdAt B b r' (w.setCell ⟨b,i,none⟩ u)∧Below B w (w.setCell ⟨b,i,none⟩ u):=by
 obtain⟨h1,p,v,hp,hb,ho⟩:=h;refine⟨⟨h1,p,v,hp,?_,?_,by rw[hd];exact ho.2⟩,(Below.refl B w).setCell (p:=⟨b,i,none⟩) h1 _⟩
 ·rw[set_block hb i u,hi]
 ·rw[hd];refine ownsRow_kept (S:=fun k=>k=b) ho.1 (one_keep w b i u) (fun k hk e=>rd_ne ho.1 hb (by rw[hk,e]))
theorem rdLies:liesAt Tryz.prog Tryz.prog.depth 72 (11 / Tryz.prog.cellsOf 72) 8 70 1=true:=by kernel_rfl
theorem rcopy_used (b:Nat) (w:World) (h0:w.cell? ⟨b,8,none⟩=some (.pointer (some ⟨b,8,none⟩))):
  Calls Tryz.prog 91 #[.pointer (some ⟨b,8,none⟩)] w fun e w'=>e=.returned (.tuple #[])∧w'=w:=by
 obtain⟨j,hj,_⟩:=Option.map_eq_some_iff.1 bldSize;go_enter Tryz.func91,Tryz.ntmps91
 go_wp2
 rw[Lib.run_neq_ptr_same w _ Tryz.underlying68 hj];go_wp2
 go_end0;exact⟨rfl,rfl⟩
theorem rcopy_fresh (b:Nat) (w:World) (h0:w.cell? ⟨b,8,none⟩=some (.pointer none)) (hsh:w.shape? b=some (72,11)) (hfz:w.frozen? ⟨b,8,none⟩=false):
  Calls Tryz.prog 91 #[.pointer (some ⟨b,8,none⟩)] w fun e w'=>e=.returned (.tuple #[])∧w'=w.setCell ⟨b,8,none⟩ (.pointer (some ⟨b,8,none⟩)):=by
 obtain⟨j,hj,hjs⟩:=Option.map_eq_some_iff.1 bldSize;go_enter Tryz.func91,Tryz.ntmps91
 go_wp2
 rw[Lib.run_to_unsafe w ⟨b,8,none⟩ Tryz.underlying68 Tryz.underlying147 hj (by rw[hjs];decide) hsh (show 8<11 by omega)];simp only[Result.andThen];rw[Oper.upon_value];go_wp2
 rw[run_callFunc_extern Tryz.func131 (by kernel_rfl) (by kernel_rfl) (by kernel_rfl) (e:=Extern.AbiNoEscape.same) (by kernel_rfl)];rw[Lib.run_noEscape];simp only[Result.andThen];rw[Oper.upon_value];go_wp2
 rw[Lib.run_from_unsafe w ⟨b,8,none⟩ Tryz.underlying147 Tryz.underlying68 hj hsh rdLies];simp only[Result.andThen];rw[Oper.upon_value];go_wp2
 go_end0;exact⟨rfl,rfl⟩
theorem rcopy_any (B b:Nat) (r:Rd) (w:World) (h:RdAt B b r w):
  Calls Tryz.prog 91 #[.pointer (some ⟨b,8,none⟩)] w fun e w'=>e=.returned (.tuple #[])∧(B≤b∧∃v,w'.heap[b]? =some (.cells (rdV r (.pointer (some ⟨b,8,none⟩)) v) 72 (0,0))∧w'.ownsRow B 5 1 v r.data.length (Lib.byteCells r.data)∧(v=.slice none 0 0↔r.data=[]))∧Below B w w':=by
 have h8:=h.froz 8;obtain⟨h1,p,v,hp,hb,ho⟩:=h;have c8:w.cell? ⟨b,8,none⟩=some p:=by rw[Lib.cell_of_heap hb];rfl
 rcases hp with rfl | rfl
 ·refine (rcopy_fresh b w c8 (by simp[World.shape?,hb,rdV]) h8).mono ?_;rintro e w' ⟨rfl,rfl⟩;refine⟨rfl,⟨h1,v,?_,?_,ho.2⟩,(Below.refl B w).setCell (p:=⟨b,8,none⟩) h1 _⟩
  ·rw[set_block hb];rfl
  ·exact ownsRow_kept (S:=fun k=>k=b) ho.1 (one_keep w b 8 _) (fun k hk e=>rd_ne ho.1 hb (by rw[hk,e]))
 ·refine (rcopy_used b w c8).mono ?_;rintro e w' ⟨rfl,rfl⟩;exact⟨rfl,⟨h1,v,hb,ho⟩,Below.refl B _⟩
set_option maxHeartbeats 2000000 in
theorem rwrite_any (B b:Nat) (r:Rd) (s:ByteArray) (w:World) (h:RdAt B b r w) (hlen:r.data.length+s.size≤140737488355328) (hBw:B≤w.heap.size):
  Calls Tryz.prog 56 #[.pointer (some ⟨b,8,none⟩),.string s] w fun e w'=>e=.returned (.tuple #[.int .i64 s.size,.nilIface])∧RdAt B b { r with data:=r.data++s.data.toList } w'∧Below B w w':=by
 obtain⟨i0,hi,hz0,hz1,hz2⟩:=info_parts byteinfo;go_enter Tryz.func56,Tryz.ntmps56
 go_wp2_with fail;refine (rcopy_any B b r w h).mono ?_;rintro e w1 ⟨rfl,⟨hB,v,hbk,hown,hnil⟩,hb1⟩;have HNil:=Hd hnil;clear hnil;have hne:=rd_ne hown hbk;have c1:w1.cell? ⟨b,9,none⟩=some v:=by rw[Lib.cell_of_heap hbk];rfl
 go_wp2_with (at_builtin;refine Lib.wpList_append_own_string _ rfl _ _ 62 9 rfl B 5 i0 Tryz.underlying62 Tryz.underlying9 hi hz0 hz1 hz2 _ _ _ rfl hown s rfl ?c3 ?c4 ?c5 ?_)
 case c3=>unfold maxLen;omega
 case c4=>omega
 case c5=>have:=hb1.size;omega
 intro v' w2 hown' hgrow hnil';have HNL:Hid (v'=.slice none 0 0↔r.data++s.data.toList=[]):=Hd (by
  refine hnil'.trans ?_;rw[List.append_eq_nil_iff,← HNil.out];refine and_congr_right fun _=>⟨fun e=>?_,fun e=>?_⟩
  ·first | (rw[e];rfl) | (exact List.eq_nil_of_length_eq_zero e)
  ·first | exact e | (cases s;simp at e;subst e;rfl))
 clear hnil';have hb2:w2.heap[b]? =some (.cells (rdV r (.pointer (some ⟨b,8,none⟩)) v) 72 (0,0)):=by
  rw[hgrow.block b (lt_of_block hbk) (fun e=>hne e.symm)];exact hbk
 have d1:w2.cell? ⟨b,9,none⟩=some v:=by rw[Lib.cell_of_heap hb2];rfl
 have f1:w2.frozen? ⟨b,9,none⟩=false:=Lib.frozen_of_heap hb2 9;obtain⟨ao,n',cap,rfl⟩:∃ao n' cap,v'=.slice ao n' cap:=by
  rcases hown'.2 with⟨hv,_⟩ | ⟨g,cap,cur,hv,_⟩
  ·exact⟨_,_,_,hv⟩
  ·exact⟨_,_,_,hv⟩
 go_wp2_with fail;go_ret2;refine⟨rfl,⟨hB,.pointer (some ⟨b,8,none⟩),.slice ao n' cap,.inr rfl,?_,?_,?_⟩,?_⟩
 ·rw[set_block hb2];rfl
 ·have e1:Lib.byteCells r.data++Lib.strCells s=Lib.byteCells (r.data++s.data.toList):=by rw[strCells_bytes];simp[Lib.byteCells]
  have ho2:=ownsRow_kept (S:=fun k=>k=b) hown' (one_keep w2 b 9 (.slice ao n' cap)) (fun k hk e=>rd_ne hown' hb2 (by rw[hk,e]));rw[e1] at ho2;show World.ownsRow _ _ _ _ _ (r.data++s.data.toList).length _;rw[List.length_append];exact ho2
 ·exact HNL.out
 ·exact (hb1.grown hgrow (by have:=hb1.size;omega) (fun k hk=>(hown.lt k hk).1)).setCell (p:=⟨b,9,none⟩) hB _
set_option maxHeartbeats 2000000 in
theorem rstring_any (B b:Nat) (r:Rd) (w:World) (h:RdAt B b r w):
  Calls Tryz.prog 31 #[.pointer (some ⟨b,8,none⟩)] w fun e w'=>e=.returned (.string ⟨r.data.toArray⟩)∧(∀cs,Bk w b cs→Bk w' b cs)∧(∀(k:Nat) es c,w.heap[k]? =some (Obj.map es c)→w'.heap[k]? =some (Obj.map es c))∧Below B w w':=by
 obtain⟨hB,p,v,hp,hbk,hown,hnil⟩:=h;have mixed: Tryz.prog.follows .mixedOrders=true:=by kernel_rfl
 by_cases h0:r.data=[]
 ·obtain rfl:=hnil.2 h0;have c1:w.drew.cell? ⟨b,9,none⟩=some (.slice none 0 0):=by
   have this:w.drew.heap[b]? =some (.cells (rdV r p (.slice none 0 0)) 72 (0,0)):=hbk;rw[Lib.cell_of_heap this];rfl
  have hSD:(Builtin.unsafeSliceData_ #[62] 116 #[.slice none 0 0]).run Tryz.prog w.drew=.ok (.pointer none) w.drew:=Lib.run_unsafeSliceData_nil _ _ _ _ _;have hUS:=Lib.run_unsafeString_none (P:=Tryz.prog) (w:=w.drew) 116 3 9 none;have HD:=Hd h0;clear hown hnil h0 hbk hp;go_enter Tryz.func31,Tryz.ntmps31
  go_wp2
  go_region_o
  all_goals (go_wp2;go_ret;exact⟨by rw[HD.out];rfl,fun _ h=>h,fun _ _ _ h=>h,Below.drew (Below.refl B w)⟩)
 ·have hl0:r.data.length≠0:=by simpa using h0
  obtain⟨g,cap,cur,rfl,hbg,hg,hnc,hcm,hcs,htake⟩:∃g cap cur,v=.slice (some ⟨g,0,none⟩) r.data.length cap∧B≤g∧w.heap[g]? =some (.cells cur 5 (0,0))∧r.data.length≤cap∧cap≤maxLen∧cur.size=cap*1∧cur.toList.take (r.data.length*1)=Lib.byteCells r.data:=by
   rcases hown.2 with⟨_,hz⟩ | ⟨g,cap,cur,hv,r⟩
   ·exact absurd hz hl0
   ·exact⟨g,cap,cur,hv,r⟩
  have hne:=rd_ne hown hbk;have c1:w.drew.cell? ⟨b,9,none⟩=some (.slice (some ⟨g,0,none⟩) r.data.length cap):=by
   have this:w.drew.heap[b]? =some (.cells (rdV r p (.slice (some ⟨g,0,none⟩) r.data.length cap)) 72 (0,0)):=hbk;rw[Lib.cell_of_heap this];rfl
  have hSD:(Builtin.unsafeSliceData_ #[62] 116 #[.slice (some ⟨g,0,none⟩) r.data.length cap]).run Tryz.prog w.drew=.ok (.pointer (some ⟨g,0,none⟩)) w.drew:=
   Lib.run_unsafeSliceData_row _ _ _ _ _ _ (by omega)
  have hUS:(Builtin.unsafeString_ #[116,3] 9 #[.pointer (some ⟨g,0,none⟩),.int .i64 r.data.length]).run Tryz.prog w.drew=.ok (.string ⟨r.data.toArray⟩) (w.drew.freeze ⟨g,0,none⟩ r.data.length):=by
   refine Lib.run_unsafeString_row w.drew 116 3 9 5 Tryz.underlying116 (by kernel_rfl) g cur.size (by have hg':w.drew.heap[g]? =some (.cells cur 5 (0,0)):=hg;simp[World.shape?,hg']) r.data h0 (by omega) (by unfold maxLen at hcm;omega) ?_;intro j x hx;have:=hown.cells (g:=g) rfl j (.int .u8 x.toNat) (by simp[Lib.byteCells,hx]);exact this
  have hfr:∀k,k≠g→(w.drew.freeze ⟨g,0,none⟩ r.data.length).heap[k]? =w.heap[k]?:=by
   intro k hk;unfold World.freeze;split
   ·rfl
   ·simp only[Array.getElem?_modify];rw[if_neg (fun e=>hk e.symm)];rfl
  have HB:Hid (∀cs,Bk w b cs→Bk (w.drew.freeze ⟨g,0,none⟩ r.data.length) b cs):=Hd (fun cs ⟨t,h⟩=>⟨t,(hfr b (fun e=>hne (by simp only[Value.ownBlock];exact congrArg some e.symm))).trans h⟩);have HM:Hid (∀(k:Nat) es c,w.heap[k]? =some (Obj.map es c)→(w.drew.freeze ⟨g,0,none⟩ r.data.length).heap[k]? =some (Obj.map es c)):=Hd (fun k es c h=>(hfr k (fun e=>by rw[e,hg] at h;cases h)).trans h);clear hfr hne htake hcs hnc hcm hg hown hnil hbk hp h0;go_enter Tryz.func31,Tryz.ntmps31
  go_wp2
  go_region_o
  all_goals (go_wp2;go_ret;exact⟨rfl,HB.out,HM.out,Lib.below_freeze (Below.drew (Below.refl B w)) (p:=⟨g,0,none⟩) hbg _⟩)
namespace Png
def plte:ByteArray:=⟨#[80,76,84,69]⟩
def trns:ByteArray:=⟨#[116,82,78,83]⟩
def idat:ByteArray:=⟨#[73,68,65,84]⟩
def iend:ByteArray:=⟨#[73,69,78,68]⟩
def colL (l:List P4):List UInt8:=l.flatMap fun p=> [u8i p.r,u8i p.g,u8i p.b]
def alpL (l:List P4):List UInt8:=l.map fun p=>u8i p.a
/-- behind the last colour that does not cover all -/
def covs (l:List P4):Nat→Nat
 | 0=>0
 | k+1=>if (atL l k).a<255 then k+1 else covs l k
theorem covs_le (l:List P4):∀k,covs l k≤k
 | 0=>Nat.le_refl 0
 | k+1=>by
  unfold covs;have:=covs_le l k;split <;> omega
theorem covs_full (l:List P4):∀k i,covs l k≤i→i<k→¬ (atL l i).a<255
 | 0,i,_,h=>by omega
 | k+1,i,h1,h2=>by
  unfold covs at h1;split at h1
  ·omega
  ·by_cases e:i=k
   ·subst e;assumption
   ·exact covs_full l k i h1 (by omega)
/-- where a number stands in its byte -/
def sft (dep x:Nat):Nat:=8-dep-x*dep%8
/-- a row of numbers, packed -/
def packR (dep nb:Nat) (v:Nat→Nat):Nat→List UInt8
 | 0=>List.replicate nb 0
 | x+1=>(packR dep nb v x).set (x*dep/8) ((packR dep nb v x).getD (x*dep/8) 0 ||| UInt8.ofNat (v x <<< sft dep x))
theorem packR_len (dep nb:Nat) (v:Nat→Nat):∀x,(packR dep nb v x).length=nb
 | 0=>List.length_replicate
 | x+1=>by unfold packR;rw[List.length_set];exact packR_len dep nb v x
/-- the number at x -/
def fieldN (l:List UInt8) (dep x:Nat):Nat:=(l.getD (x*dep/8) 0).toNat/2^sft dep x%2^dep
def IsDep (dep:Nat):Prop:=dep=1∨dep=2∨dep=4∨dep=8
theorem or_same {b v s d:Nat} (hb:b/2^s%2^d=0) (hv:v<2^d):(b ||| v <<< s)/2^s%2^d=v:=by
 refine Nat.eq_of_testBit_eq fun i=>?_;rw[Nat.testBit_mod_two_pow,Nat.testBit_div_two_pow,Nat.testBit_or,Nat.testBit_shiftLeft];by_cases hi:i<d
 ·have h0:Nat.testBit (b/2^s%2^d) i=false:=by rw[hb];exact Nat.zero_testBit i
  rw[Nat.testBit_mod_two_pow,Nat.testBit_div_two_pow] at h0;simp only[hi,decide_true,Bool.true_and] at h0⊢;rw[h0];simp
 ·have q:=Nat.testBit_lt_two_pow (x:=v) (i:=i) (Nat.lt_of_lt_of_le hv (Nat.pow_le_pow_right (by decide) (by omega)));simp[hi,q]
theorem or_other {b v s t d:Nat} (hst:s+d≤t∨t+d≤s) (hv:v<2^d):(b ||| v <<< s)/2^t%2^d=b/2^t%2^d:=by
 refine Nat.eq_of_testBit_eq fun i=>?_;rw[Nat.testBit_mod_two_pow,Nat.testBit_div_two_pow,Nat.testBit_or,Nat.testBit_shiftLeft,Nat.testBit_mod_two_pow,Nat.testBit_div_two_pow];by_cases hi:i<d
 ·rcases hst with q | q
  ·rw[Nat.testBit_lt_two_pow (x:=v) (i:=i+t-s) (Nat.lt_of_lt_of_le hv (Nat.pow_le_pow_right (by decide) (by omega)))];simp
  ·have:decide (i+t≥s)=false:=decide_eq_false (by omega);rw[this];simp
 ·simp[hi]
theorem sft_parts {dep x y:Nat} (hd:IsDep dep) (h:x*dep/8=y*dep/8) (hne:x≠y):sft dep x+dep≤sft dep y∨sft dep y+dep≤sft dep x:=by
 unfold sft;rcases hd with rfl | rfl | rfl | rfl <;> omega
theorem sft_fits {dep x:Nat} (hd:IsDep dep):sft dep x+dep≤8:=by
 unfold sft;rcases hd with rfl | rfl | rfl | rfl <;> omega
theorem idx_fits {dep x W:Nat} (hd:IsDep dep) (hx:x<W):x*dep/8<(W*dep+7)/8:=by
 rcases hd with rfl | rfl | rfl | rfl <;> omega
theorem shl_fits {dep x v:Nat} (hd:IsDep dep) (hv:v<2^dep):v <<< sft dep x<256:=by
 rw[Nat.shiftLeft_eq];have h:=sft_fits (x:=x) hd;have:v*2^sft dep x<2^dep*2^sft dep x:=Nat.mul_lt_mul_of_pos_right hv (Nat.pow_pos (by decide));rw[← Nat.pow_add] at this;exact Nat.lt_of_lt_of_le this (Nat.le_trans (Nat.pow_le_pow_right (by decide) (by omega:dep+sft dep x≤8)) (by decide))
theorem packR_get {dep W:Nat} {v:Nat→Nat} (hd:IsDep dep) (hv:∀x,x<W→v x<2^dep):∀k,k≤W→∀x,x<W→fieldN (packR dep ((W*dep+7)/8) v k) dep x=if x<k then v x else 0:=by
 intro k;induction k with
 | zero=>
  intro _ x hx;unfold fieldN packR;have e:(List.replicate ((W*dep+7)/8) (0:UInt8)).getD (x*dep/8) 0=0:=by
   rw[List.getD_eq_getElem?_getD,List.getElem?_replicate];split <;> rfl
  rw[e];simp
 | succ k ih=>
  intro hk x hx;have ih0:=ih (by omega);have hl:=packR_len dep ((W*dep+7)/8) v k;have hkl:k*dep/8<(packR dep ((W*dep+7)/8) v k).length:=by rw[hl];exact idx_fits hd (by omega)
  obtain⟨l,el⟩:∃l,packR dep ((W*dep+7)/8) v k=l:=⟨_,rfl⟩;have hs:packR dep ((W*dep+7)/8) v (k+1)=l.set (k*dep/8) (l.getD (k*dep/8) 0 ||| UInt8.ofNat (v k <<< sft dep k)):=by rw[← el];rfl
  rw[hs];rw[el] at ih0 hkl;have hvk:=hv k (by omega);have hsh:=shl_fits (x:=k) hd hvk;have hor:(l.getD (k*dep/8) 0 ||| UInt8.ofNat (v k <<< sft dep k)).toNat=(l.getD (k*dep/8) 0).toNat ||| v k <<< sft dep k:=by
   rw[UInt8.toNat_or,UInt8.toNat_ofNat',Nat.mod_eq_of_lt hsh]
  by_cases hj:x*dep/8=k*dep/8
  ·have e:(l.set (k*dep/8) (l.getD (k*dep/8) 0 ||| UInt8.ofNat (v k <<< sft dep k))).getD (x*dep/8) 0=l.getD (k*dep/8) 0 ||| UInt8.ofNat (v k <<< sft dep k):=by
    rw[List.getD_eq_getElem?_getD,hj,List.getElem?_set_self hkl];rfl
   unfold fieldN;rw[e,hor];by_cases hxk:x=k
   ·subst hxk;have h0:=ih0 x hx;rw[if_neg (by omega)] at h0;rw[if_pos (by omega)];exact or_same h0 hvk
   ·rw[or_other (sft_parts hd hj.symm (fun q=>hxk q.symm)) hvk];have h0:=ih0 x hx;unfold fieldN at h0;rw[hj] at h0;rw[h0];by_cases h3:x<k
    ·rw[if_pos h3,if_pos (by omega)]
    ·rw[if_neg h3,if_neg (by omega)]
  ·have e:(l.set (k*dep/8) (l.getD (k*dep/8) 0 ||| UInt8.ofNat (v k <<< sft dep k))).getD (x*dep/8) 0=l.getD (x*dep/8) 0:=by
    rw[List.getD_eq_getElem?_getD,List.getElem?_set_ne (fun q=>hj q.symm),List.getD_eq_getElem?_getD]
   have hxk:x≠k:=fun q=>hj (by rw[q]);unfold fieldN;rw[e];have h0:=ih0 x hx;unfold fieldN at h0;rw[h0];by_cases h3:x<k
   ·rw[if_pos h3,if_pos (by omega)]
   ·rw[if_neg h3,if_neg (by omega)]
/-- the rows of a picture's numbers -/
def rowsP (dep W:Nat) (v:Nat→Nat):Nat→List UInt8
 | 0=> []
 | y+1=>rowsP dep W v y++0 ::packR dep ((W*dep+7)/8) (fun x=>v (y*W+x)) W
theorem rowsP_len (dep W:Nat) (v:Nat→Nat):∀y,(rowsP dep W v y).length=y*((W*dep+7)/8+1)
 | 0=>by simp[rowsP]
 | y+1=>by
  unfold rowsP;rw[List.length_append,List.length_cons,packR_len,rowsP_len dep W v y,Nat.succ_mul]
end Png
/-- elements of length n among the first i -/
def symL (f:Nat→Int) (n:Nat):Nat→List Nat
  | 0=> []
  | i+1=>symL f n i++(if f i=n then [i] else [])
/-- symbols of lengths 1 to n -/
def symA (f:Nat→Int) (len:Nat):Nat→List Nat
  | 0=> []
  | n+1=>symA f len n++symL f (n+1) len
theorem symL_length (f:Nat→Int) (n:Nat):∀i,(symL f n i).length=many f n i:=by
  intro i;induction i with
  | zero=>rfl
  | succ i ih=>simp only[symL,List.length_append,ih,many];split <;> simp
theorem symL_yes (f:Nat→Int) (n i:Nat) (h:f i=n):symL f n (i+1)=symL f n i ++ [i]:=by simp[symL,h]
theorem symL_no (f:Nat→Int) (n i:Nat) (h:¬ f i=n):symL f n (i+1)=symL f n i:=by simp[symL,h]
/-- how many symbols have lengths 1 to n -/
def upTo (f:Nat→Int) (len:Nat):Nat→Nat
  | 0=>0
  | n+1=>upTo f len n+many f (n+1) len
theorem symA_length (f:Nat→Int) (len:Nat):∀n,(symA f len n).length=upTo f len n:=by
  intro n;induction n with
  | zero=>rfl
  | succ n ih=>simp only[symA,List.length_append,ih,symL_length,upTo]
theorem symA_get (f:Nat→Int) (len:Nat):∀N n j x,n<N→(symL f (n+1) len)[j]? =some x→(symA f len N)[upTo f len n+j]? =some x:=by
  intro N;induction N with
  | zero=>intro n j x h;omega
  | succ N ih=>
    intro n j x h hx;simp only[symA];rcases Nat.lt_succ_iff_lt_or_eq.1 h with q | q
    · have h1:=ih n j x q hx;have hlt:upTo f len n+j<(symA f len N).length:=by
        rcases Nat.lt_or_ge (upTo f len n+j) (symA f len N).length with r | r
        · exact r
        · rw[List.getElem?_eq_none r] at h1;cases h1
      rw[List.getElem?_append_left hlt,h1]
    · subst q;rw[List.getElem?_append_right (by rw[symA_length];omega),symA_length,Nat.add_sub_cancel_left,hx]
theorem upTo_le (f:Nat→Int) (len:Nat):∀n m,n≤m→upTo f len n≤upTo f len m:=by
  intro n m h;induction m with
  | zero=>
    have:n=0:=by omega
    subst this;exact Nat.le_refl _
  | succ m ih=>
    rcases Nat.lt_or_ge n (m+1) with q | q
    · have:=ih (by omega);simp only[upTo];omega
    · have:n=m+1:=by omega
      subst this;exact Nat.le_refl _
end Go.Proofs.YthlibiocadimhaaGreatDoor
namespace Go.Proofs.YthlibiocadimhaaGreatDoor
open Go.RowKit Go.ChangeShapes Go.WideShapes
theorem i64info:(Tryz.prog.info? 3).map (fun i=>(i.zero,i.size,i.bytes))=some (some (.int .i64 0),1,8):=by kernel_rfl
def intsV (len:Nat) (f:Nat→Int):List Value:=(List.range len).map fun i=>Value.int .i64 (f i)
theorem intsV_get (len:Nat) (f:Nat→Int) (i:Nat) (h:i<len):(intsV len f)[i]? =some (.int .i64 (f i)):=by simp[intsV,h]
theorem Ints.of_own {w:World} {base:Nat} {v:Value} {len:Nat} {f:Nat→Int} (h:w.ownsRow base 3 1 v len (intsV len f)) (hb:∀i,i<len→ -9223372036854775808≤f i∧f i≤9223372036854775807):
  ∃x cap,v=.slice x len cap∧Ints w x len f:=by
 rcases ownsRow_slice h with⟨rfl,h0⟩ | ⟨g,cap,rfl⟩
 ·subst h0;exact⟨none,0,rfl,fun _=>rfl,fun a h=>by cases h⟩
 ·refine⟨some ⟨g,0,none⟩,cap,rfl,(fun h=>by cases h),fun a ha i hi=>?_⟩;injection ha with ha;subst ha;rw[add_plain,h.cellAt i (by omega),intsV_get len f i hi];exact⟨rfl,hb i hi⟩
theorem first_ge (f:Nat→Int) (len n:Nat) (h1:1≤n):∀d,2^(d+1)*(first f len n+many f n len)≤first f len (n+d+1):=by
 intro d;induction d with
 | zero=>rw[Nat.add_zero,first_succ f len n h1,Nat.mul_comm];exact Nat.le_refl _
 | succ d ih=>
  rw[show n+(d+1)+1=(n+d+1)+1 by omega,first_succ f len (n+d+1) (by omega),Nat.pow_succ,Nat.mul_comm (2^(d+1)) 2,Nat.mul_assoc,Nat.mul_comm 2];exact Nat.mul_le_mul_right _ (by omega)
/-- no word begins another one -/
theorem apart (f:Nat→Int) (len:Nat) (i k:Nat) (hi:i<len) (hik:i≠k) (h0:0<f i) (hle:f i≤f k):word f len k/2^(f k-f i).toNat≠word f len i:=by
 obtain⟨n,hn⟩:∃n:Nat,f i=n:=⟨(f i).toNat,by omega⟩;obtain⟨m,hm⟩:∃m:Nat,f k=m:=⟨(f k).toNat,by omega⟩;have hwi:word f len i=first f len n+many f n i:=by unfold word;rw[if_pos h0,hn];rfl
 have hwk:word f len k=first f len m+many f m k:=by unfold word;rw[if_pos (by omega),hm];rfl
 rw[hwi,hwk,show (f k-f i).toNat=m-n by omega];rcases Nat.lt_or_ge n m with h | h
 ·obtain⟨d,rfl⟩:∃d,m=n+d+1:=⟨m-n-1,by omega⟩;have h1:=first_ge f len n (by omega) d;have h2:=many_mono f n len (i+1) hi;rw[many_at f n i hn] at h2;rw[show n+d+1-n=d+1 by omega];have h3:first f len n+many f n len≤(first f len (n+d+1)+many f (n+d+1) k)/2^(d+1):=by
   rw[Nat.le_div_iff_mul_le (Nat.two_pow_pos _),Nat.mul_comm];omega
  omega
 ·obtain rfl:m=n:=by omega
  rw[Nat.sub_self,Nat.pow_zero,Nat.div_one];rcases Nat.lt_or_ge i k with q | q
  ·have h2:=many_mono f m k (i+1) q;rw[many_at f m i hn] at h2;omega
  ·have h2:=many_mono f m i (k+1) (by omega);rw[many_at f m k hm] at h2;omega
end Go.Proofs.YthlibiocadimhaaGreatDoor
namespace Go.Proofs.YthlibiocadimhaaGreatDoor
open Go.RowKit
/-- the number of n bits of a text's number from a place on, the first one the highest -/
def codeAt (N a:Nat):Nat→Nat
 | 0=>0
 | n+1=>2*codeAt N a n+N/2^(a+n)%2
def NoHit (f:Nat→Int) (len N a n:Nat):Prop:=∀j,1≤j→j≤n→first f len j+many f j len≤codeAt N a j
theorem codeAt_lt (N a:Nat):∀n,codeAt N a n<2^n:=by
 intro n;induction n with
 | zero=>exact (by decide:0<1)
 | succ n ih=>simp only[codeAt,Nat.pow_succ];have:=Nat.mod_lt (N/2^(a+n)) (show 0<2 by decide);omega
theorem codeAt_div (N a n:Nat):∀d,codeAt N a (n+d)/2^d=codeAt N a n:=by
 intro d;induction d with
 | zero=>simp
 | succ d ih=>
  rw[show n+(d+1)=n+d+1 by omega,Nat.pow_succ,Nat.mul_comm,← Nat.div_div_eq_div_mul];simp only[codeAt];rw[show (2*codeAt N a (n+d)+N/2^(a+(n+d))%2)/2=codeAt N a (n+d) by have:=Nat.mod_lt (N/2^(a+(n+d))) (show 0<2 by decide);omega,ih]
theorem codeAt_first (N a:Nat):∀k,codeAt N a (k+1)=N/2^a%2*2^k+codeAt N (a+1) k:=by
 intro k;induction k with
 | zero=>simp[codeAt]
 | succ k ih=>
  have e:codeAt N a (k+1+1)=2*codeAt N a (k+1)+N/2^(a+(k+1))%2:=rfl;rw[e,ih];simp only[codeAt];rw[show a+1+k=a+(k+1) by omega,Nat.pow_succ,Nat.mul_add,← Nat.mul_assoc,Nat.mul_comm 2 (N/2^a%2),Nat.mul_assoc (N/2^a%2),Nat.mul_comm 2 (2^k)];omega
/-- what was laid with the highest bit first is read so -/
theorem codeAt_high (x:Nat):∀k N a,N/2^a%2^k=Bts.val (Bts.high x k)→codeAt N a k=x%2^k:=by
 intro k;induction k with
 | zero=>intro N a _;simp[codeAt,Nat.mod_one]
 | succ k ih=>
  intro N a h;rw[Bts.val_high_succ,Nat.pow_succ,Nat.mul_comm (2^k) 2] at h;have h1:N/2^a%2=x/2^k%2:=by
   have:=congrArg (· % 2) h;rw[Nat.mod_mul_right_mod] at this;omega
  have h2:N/2^(a+1)%2^k=Bts.val (Bts.high x k):=by
   have:=congrArg (· / 2) h;rw[Nat.mod_mul_right_div_self] at this;rw[Nat.pow_succ,← Nat.div_div_eq_div_mul,this];have:=Nat.mod_lt (x/2^k) (show 0<2 by decide);omega
  rw[codeAt_first,ih N (a+1) h2,h1,Nat.pow_succ,Nat.mod_mul,Nat.mul_comm (2^k)];omega
theorem NoHit.next {f:Nat→Int} {len N a n:Nat} (h:NoHit f len N a n):first f len (n+1)≤2*codeAt N a n:=by
 cases n with
 | zero=>exact Nat.zero_le _
 | succ n=>
  have:=h (n+1) (by omega) (Nat.le_refl _);rw[first_succ f len (n+1) (by omega)];omega
theorem NoHit.zero (f:Nat→Int) (len N a:Nat):NoHit f len N a 0:=fun j h1 h2=>by omega
theorem NoHit.succ {f:Nat→Int} {len N a n:Nat} (h:NoHit f len N a n) (h1:first f len (n+1)+many f (n+1) len≤codeAt N a (n+1)):NoHit f len N a (n+1):=by
 intro j h2 h3;rcases Nat.lt_or_ge j (n+1) with q | q
 ·exact h j h2 (by omega)
 ·have:j=n+1:=by omega
  subst this;exact h1
theorem NoHit.all {f:Nat→Int} {len N a n:Nat} (h:NoHit f len N a n) (hu:upTo f len 15≤upTo f len n) (hn:n≤15):NoHit f len N a 15:=by
 have key:∀d,n+d≤15→NoHit f len N a (n+d):=by
  intro d;induction d with
  | zero=>intro _;exact h
  | succ d ih=>
   intro hd;have h1:=ih (by omega);have u1:=upTo_le f len n (n+d) (by omega);have u2:=upTo_le f len (n+d+1) 15 (by omega);have u3:upTo f len (n+d+1)=upTo f len (n+d)+many f (n+d+1) len:=rfl;have u4:many f (n+d+1) len=0:=by omega
   refine h1.succ ?_;have:=h1.next;show first f len (n+d+1)+many f (n+d+1) len≤2*codeAt N a (n+d)+_
   omega
 have:=key (15-n) (by omega);rwa [show n+(15-n)=15 by omega] at this
theorem nohit_word {f:Nat→Int} {len N a k m:Nat} (hk:f k=m) (h1:1≤m) (hc:codeAt N a m=word f len k):NoHit f len N a (m-1):=by
 intro j hj1 hj2;obtain⟨d,rfl⟩:∃d,m=j+d+1:=⟨m-j-1,by omega⟩;have e:=codeAt_div N a j (d+1);rw[show j+(d+1)=j+d+1 by omega,hc] at e;have hw:word f len k=first f len (j+d+1)+many f (j+d+1) k:=by unfold word;rw[if_pos (by omega),hk];rfl
 have hg:=first_ge f len j hj1 d;rw[← e,Nat.le_div_iff_mul_le (Nat.two_pow_pos _),Nat.mul_comm,hw];omega
theorem symL_inv (f:Nat→Int) (n:Nat):∀i j x,(symL f n i)[j]? =some x→x<i∧f x=n∧many f n x=j:=by
 intro i;induction i with
 | zero=>intro j x h;simp[symL] at h
 | succ i ih=>
  intro j x h;simp only[symL] at h;rcases Nat.lt_or_ge j (symL f n i).length with q | q
  ·rw[List.getElem?_append_left q] at h;have:=ih j x h;exact⟨by omega,this.2⟩
  ·rw[List.getElem?_append_right q] at h;split at h
   ·have hj:j-(symL f n i).length=0:=by
     rcases Nat.eq_zero_or_pos (j-(symL f n i).length) with r | r
     ·exact r
     ·rw[List.getElem?_eq_none (show [i].length≤_ from r)] at h;cases h
    rw[hj] at h;simp at h;subst h;refine⟨by omega,by assumption,?_⟩;rw[← symL_length];omega
   ·simp at h
/-- the symbol of a word that is met -/
theorem hit_sym (f:Nat→Int) (len c n:Nat) (hn1:1≤n) (hn:n≤15) (h1:first f len n≤c) (h2:c<first f len n+many f n len):
  ∃k,(symA f len 15)[upTo f len (n-1)+(c-first f len n)]? =some k∧k<len∧f k=n∧word f len k=c:=by
 have hlt:c-first f len n<(symL f n len).length:=by rw[symL_length];omega
 refine⟨(symL f n len)[c-first f len n],?_,?_⟩
 ·obtain⟨m,rfl⟩:∃m,n=m+1:=⟨n-1,by omega⟩;exact symA_get f len 15 m _ _ (by omega) (List.getElem?_eq_getElem hlt)
 ·obtain⟨q1,q2,q3⟩:=symL_inv f n len _ _ (List.getElem?_eq_getElem hlt);refine⟨q1,q2,?_⟩;unfold word;rw[if_pos (by omega),q2];simp only[Int.toNat_natCast];rw[q3];omega
noncomputable def vcode (f:Nat→Int) (len:Nat):Int:=
  open Classical in if inBounds f len then if complete f len then 0 else 3 else 2
def symV (l:List Nat):List Value:=l.map fun i:Nat=>Value.int .i64 (i:Int)
/-- a tree as it lies in memory: of each length how many words, and the symbols -/
structure TAt (w:World) (T:Nat) (v:Value) (f:Nat→Int) (len:Nat) (l:List Nat):Prop where
 many:∀j,j<16→w.cell? ⟨T,j,none⟩=some (.int .i64 (many f j len:Int))
 cell:w.cell? ⟨T,16,none⟩=some v
 free:w.frozen? ⟨T,16,none⟩=false
 row:w.ownsRow 0 3 1 v l.length (symV l)
 apart:v.ownBlock≠some T
theorem tree_cells (F:Nat→Int):Array.foldl (fun (cs:Array Value) (x:Value × Nat)=>cs.setIfInBounds x.snd x.fst) #[.int .i64 0,.int .i64 0,.int .i64 0,.int .i64 0,.int .i64 0,.int .i64 0,.int .i64 0,.int .i64 0,.int .i64 0,.int .i64 0,.int .i64 0,.int .i64 0,.int .i64 0,.int .i64 0,.int .i64 0,.int .i64 0,.slice none 0 0] ((cellsI .i64 16 F).zipIdx) 0 16=#[.int .i64 (F 0),.int .i64 (F 1),.int .i64 (F 2),.int .i64 (F 3),.int .i64 (F 4),.int .i64 (F 5),.int .i64 (F 6),.int .i64 (F 7),.int .i64 (F 8),.int .i64 (F 9),.int .i64 (F 10),.int .i64 (F 11),.int .i64 (F 12),.int .i64 (F 13),.int .i64 (F 14),.int .i64 (F 15),.slice none 0 0]:=by
 rw[cells16_eq];kernel_rfl
theorem upTo_bd (f:Nat→Int) (len:Nat):∀n,upTo f len n≤n*len:=by
 intro n;induction n with
 | zero=>exact Nat.zero_le _
 | succ n ih=>have:=many_le f (n+1) len;simp only[upTo,Nat.succ_mul];omega
theorem tat_push {w wr w5:World} {T:Nat} {v v':Value} {f:Nat→Int} {len i:Nat} {l l0:List Nat} {o:Obj} (hT:TAt wr T v f len l0) (hX:Ext w wr) (hTw:w.heap.size≤T) (hV:∀k,v.ownBlock=some k→w.heap.size≤k) (hl:l0=l)
  (hgrow:(wr.alloc o).grownBy w5 v.ownBlock) (hown:w5.ownsRow 0 3 1 v' (l.length+1) (symV l ++ [.int .i64 (i:Int)])) (hat:v'.ownBlock=v.ownBlock∨v'.ownBlock=some (wr.heap.size+1)):
  w5.cell? ⟨T,16,none⟩=some v∧w5.frozen? ⟨T,16,none⟩=false∧TAt (w5.setCell ⟨T,16,none⟩ v') T v' f len (l ++ [i])∧(∀k,v'.ownBlock=some k→w.heap.size≤k)∧Ext w (w5.setCell ⟨T,16,none⟩ v'):=by
 subst hl;have hlt:T<wr.heap.size:=World.block_lt_of_cell? wr _ hT.cell;have hlt2:T<(wr.alloc o).heap.size:=by rw[World.size_alloc];omega
 have hk:=Keeps.grown hgrow;have hn:¬ v.ownBlock=some T:=hT.apart;have cc:∀j,w5.cell? ⟨T,j,none⟩=wr.cell? ⟨T,j,none⟩:=fun j=>(hk.cell (p:=⟨T,j,none⟩) hlt2 hn).trans (World.cell?_alloc_past _ _ _ hlt);have ff:∀j,w5.frozen? ⟨T,j,none⟩=wr.frozen? ⟨T,j,none⟩:=fun j=>(hk.frozen (p:=⟨T,j,none⟩) hlt2 hn).trans (World.frozen?_alloc_past _ _ _ hlt);have hvT:v'.ownBlock≠some T:=by
  rcases hat with q | q
  ·rw[q];exact hn
  ·rw[q];intro e;injection e with e;omega
 have hv':∀k,v'.ownBlock=some k→w.heap.size≤k:=by
  intro k hk;rcases hat with q | q
  ·rw[q] at hk;exact hV k hk
  ·rw[q] at hk;injection hk with hk;have:=hX.size;omega
 have hE:Ext w w5:=by
  have h1:Ext w (wr.alloc o):=hX.alloc o;exact⟨hk.os.trans h1.os,hk.tape.trans h1.tape,hk.output.trans h1.output,Nat.le_trans h1.size hk.size,fun j hj=>(hk.block j (by have:=h1.size;omega) (fun q=>by have:=hV j q;omega)).trans (h1.block j hj)⟩
 refine⟨(cc 16).trans hT.cell,(ff 16).trans hT.free,⟨fun j hj=>?_,?_,?_,?_,hvT⟩,hv',hE.setCell hTw _⟩
 ·rw[World.cell?_setCell_other _ _ _ _ (by intro e;injection e with _ e;omega),cc];exact hT.many j hj
 ·exact World.cell?_setCell_same _ _ _ ((cc 16).trans hT.cell)
 ·rw[World.frozen?_setCell,ff];exact hT.free
 ·have e:symV (l0 ++ [i])=symV l0 ++ [.int .i64 (i:Int)]:=by simp[symV]
  rw[e,List.length_append];exact ownsRow_setCell_other hown hvT _
theorem read_good (x:Option Addr) (len cap:Nat) (f:Nat→Int) (w:World) (E:Nat→Addr) (hE:Errs w E) (hx:Ints w x len f) (hb:inBounds f len) (hc:complete f len):
  Calls Tryz.prog 175 #[.slice x len cap] w fun e w'=>(∃T v,w.heap.size≤T∧(∀k,v.ownBlock=some k→w.heap.size≤k)∧e=.returned (.tuple #[.pointer (some ⟨T,0,none⟩),.nilIface])∧TAt w' T v f len (symA f len 15))∧Ext w w':=by
 have hl:=hb.1;have HX:=Hd hx;have HB:=Hd hb;have HC:=Hd hc;have HE:=Hd hE;clear hx hb hc hE;go_enter Tryz.func175,Tryz.ntmps175
 go_wp2_with fail;refine (valid_calls x len cap f w HX.out (by unfold maxLen;omega) _ _ (HE.out.var 1 (by decide)) (HE.out.var 2 (by decide))).mono ?_;rintro e w2 ⟨h2,h | h | h⟩;rotate_left
 ·exact absurd HB.out h.2
 ·exact absurd HC.out h.2.2
 obtain⟨rfl,_⟩:=h;have X2:=Hd h2;clear h2;go_wp2_with fail;refine (words_calls x len cap f _ (HX.out.ext X2.out) (by unfold maxLen;omega) HB.out.2).mono ?_;rintro e w3 ⟨rfl,rfl⟩;have X3:=Hd (X2.out.alloc (.cells (cellsI .i64 16 fun n=>(many f n len:Int)) 229));go_wp2_with fail;rw[tree_cells];refine wp_world (fun wz=>Ext w wz∧w2.heap.size+1<wz.heap.size∧(∀j,j<16→wz.cell? ⟨w2.heap.size+1,j,none⟩=some (.int .i64 (many f j len:Int)))∧wz.cell? ⟨w2.heap.size+1,16,none⟩=some (.slice none 0 0)∧wz.frozen? ⟨w2.heap.size+1,16,none⟩=false) ?_ ?_
 ·refine⟨X3.out.alloc _,by simp,fun j hj=>?_,?_,?_⟩
  ·rw[World.cell?_alloc_at _ _ _ _ (by simp)];match j,hj with
   | 0,_=>rfl
   | 1,_=>rfl
   | 2,_=>rfl
   | 3,_=>rfl
   | 4,_=>rfl
   | 5,_=>rfl
   | 6,_=>rfl
   | 7,_=>rfl
   | 8,_=>rfl
   | 9,_=>rfl
   | 10,_=>rfl
   | 11,_=>rfl
   | 12,_=>rfl
   | 13,_=>rfl
   | 14,_=>rfl
   | 15,_=>rfl
   | n+16,h=>exact absurd h (by omega)
  ·rw[World.cell?_alloc_at _ _ _ _ (by simp)];rfl
  ·rw[World.frozen?_alloc_at _ _ _ _ (by simp)]
 rintro w4 ⟨hX4,hT,hM,hc,hf⟩;have X4:=Hd hX4;have TA:Hid (TAt w4 (w2.heap.size+1) (.slice none 0 0) f len (symA f len 0)):=Hd ⟨hM,hc,hf,World.ownsRow_nil _ _ _ _,by intro e;cases e⟩;have hTw:w.heap.size≤w2.heap.size+1:=by have:=X2.out.size;omega
 clear hX4 hM hc hf X3;generalize w2.heap.size+1=T at *;obtain⟨i0,hi0,hz0,hz1,hz2⟩:=info_parts i64info;go_loopw [6] (fun c wr=>∃(n:Nat) (v:Value),1≤n∧n≤16∧c=.int .i64 n∧Hid (TAt wr T v f len (symA f len (n-1)))∧Hid (∀k,v.ownBlock=some k→w.heap.size≤k)∧Hid (Ext w wr)) (fun c _=>16-(intOf c).toNat)
 case atStart=>exact⟨1,.slice none 0 0,by omega,by omega,rfl,TA,Hd (fun k h=>by cases h),X4⟩
 case round=>
  obtain⟨n,v,hn1,hn2,rfl,HT,HV,HXt⟩:=hrel;by_cases hlt:n<16
  ·have tn:decide ((n:Int)≤15)=true:=decide_eq_true (by omega);have HT0:Hid (TAt wr T v f len (symA f len (n-1)++symL f n 0)):=Hd (by simp only[symL,List.append_nil];exact HT.out);go_wp2_with fail;go_loopw [24] (fun c wr=>∃(i:Nat) (v:Value),i≤len∧c=.int .i64 i∧Hid (TAt wr T v f len (symA f len (n-1)++symL f n i))∧Hid (∀k,v.ownBlock=some k→w.heap.size≤k)∧Hid (Ext w wr)) (fun c _=>len-(intOf c).toNat)
   case atStart=>exact⟨0,v,by omega,rfl,HT0,HV,HXt⟩
   case round=>
    clear HT HV HXt HT0;obtain⟨i,v,hi,rfl,HT,HV,HXt⟩:=hrel;by_cases hil:i<len
    ·obtain⟨a,rfl⟩:∃a,x=some a:=by
      cases x with
      | none=>have:=HX.out.1 rfl;omega
      | some a=>exact⟨a,rfl⟩
     obtain⟨hcell,f1,f2⟩:=(HX.out.ext HXt.out).2 a rfl i hil;by_cases hfn:f i=n
     ·have t1:(f i ==(n:Int))=true:=beq_iff_eq.2 hfn;have HSY:=Hd (symL_yes f n i hfn);have hct:=HT.out.cell;have hft:=HT.out.free;have hrow:=HT.out.row;have hTz:T<wr.heap.size:=World.block_lt_of_cell? wr _ hct;obtain⟨l,hl2⟩:∃l,symA f len (n-1)++symL f n i=l:=⟨_,rfl⟩;have hll:l.length≤5000:=by
       rw[← hl2,List.length_append,symA_length,symL_length];have q1:=many_le f n i;have q2:=upTo_bd f len (n-1);have q3:(n-1)*len≤15*300:=Nat.mul_le_mul (by omega) hl;omega
      rw[hl2] at hrow;have HLL:=Hd hl2;clear hl2 hfn;go_wp2_with (at_builtin;refine wpList_append_own_at _ rfl _ _ 88 rfl 0 3 i0 (.int .i64 0) 1 8 Tryz.underlying88 hi0 hz0 hz1 hz2 rfl (by decide) _ _ _ rfl (hrow.alloc _) ⟨wr.heap.size,0,none⟩ 1 1 [.int .i64 (i:Int)] rfl rfl ?c1 ?c2 ?c3 ?c4 ?c5 ?_)
      case c1=>
       intro j u hj;match j,hj with
       | 0,hj=>simp only[List.getElem?_cons_zero,Option.some.injEq] at hj;subst hj;rw[add_plain,World.cell?_alloc_at _ _ _ _ rfl];rfl
      case c2=>intro u hu;rw[List.mem_singleton.1 hu];rfl
      case c3=>unfold maxLen;omega
      case c4=>omega
      case c5=>exact Nat.zero_le _
      intro v' w5 hown hgrow _ hat;obtain⟨g5,cap5,rfl,_,_⟩:=ownsRow_some hown (by omega);have P:=tat_push HT.out HXt.out hTw HV.out HLL.out hgrow hown hat;have c16:=P.1;have f16:=P.2.1;have HP:=Hd P.2.2;have HT2:Hid (TAt (w5.setCell ⟨T,16,none⟩ (.slice (some ⟨g5,0,none⟩) (l.length+1) cap5)) T (.slice (some ⟨g5,0,none⟩) (l.length+1) cap5) f len (symA f len (n-1)++symL f n (i+1))):=Hd (by rw[HSY.out,← List.append_assoc,HLL.out];exact HP.out.1);clear P hown hgrow hat hrow hct hft;go_wp2_with fail;go_roundw
      case rel=>exact⟨i+1,_,by omega,by go_num,HT2,Hd HP.out.2.1,Hd HP.out.2.2⟩
      case measure=>simp[intOf];omega
     ·have t1:(f i ==(n:Int))=false:=beq_eq_false_iff_ne.2 hfn;have HSY:=Hd (symL_no f n i hfn);clear hfn;go_wp2_with fail;go_roundw
      case rel=>exact⟨i+1,v,by omega,by go_num,by rw[HSY.out];exact HT,HV,HXt⟩
      case measure=>simp[intOf];omega
    ·obtain rfl:i=len:=by omega
     go_wp2_with fail;go_roundw
     case rel=>
      refine⟨n+1,v,by omega,by omega,by go_num,?_,HV,HXt⟩;have e:symA f i (n+1-1)=symA f i (n-1)++symL f n i:=by
       obtain⟨m,rfl⟩:∃m,n=m+1:=⟨n-1,by omega⟩;rfl
      rw[e];exact HT
     case measure=>simp[intOf];omega
  ·obtain rfl:n=16:=by omega
   go_wp2_with fail;go_ret2;exact⟨⟨T,v,hTw,HV.out,rfl,HT.out⟩,HXt.out⟩
theorem fits_calls (x:Nat) (width:Int) (w:World) (hw1: -9223372036854775808≤width) (hw2:width≤9223372036854775807) (hx:x<4294967296):
  Calls Tryz.prog 143 #[.int .u32 (x:Int),.int .i64 width] w fun e w'=>e=.returned (.bool (decide (0≤width∧width≤32∧x<2^width.toNat)))∧w=w':=by
 by_cases h1:0≤width
 ·by_cases h2:width≤32
  ·obtain⟨k,rfl⟩:∃k:Nat,width=k:=⟨width.toNat,by omega⟩;have hk:k≤32:=by omega
   go_enter Tryz.func143,Tryz.ntmps143
   go_wp2
   go_ret;refine⟨ret_bool ?_,rfl⟩;rw[Bool.eq_iff_iff,beq_iff_eq,decide_eq_true_iff];simp only[Int.toNat_natCast];rw[show ((x:Int)/2^k)=((x/2^k:Nat):Int) by simp];constructor
   ·intro h;have h':x/2^k=0:=by omega
    rcases (Nat.div_eq_zero_iff).1 h' with q | q
    ·have:=Nat.two_pow_pos k;omega
    ·exact⟨by omega,by omega,q⟩
   ·intro h;rw[Nat.div_eq_of_lt h.2.2];rfl
  ·go_enter Tryz.func143,Tryz.ntmps143
   go_wp2
   go_ret;exact⟨ret_bool (by symm;simp only[Bool.and_eq_false_iff,decide_eq_false_iff_not];omega),rfl⟩
 ·go_enter Tryz.func143,Tryz.ntmps143
  go_wp2
  go_ret;exact⟨ret_bool (by symm;simp only[Bool.and_eq_false_iff,decide_eq_false_iff_not];omega),rfl⟩
theorem bit_and (x i:Nat) (hx:x/2^i<4294967296):bits BinOp.and IntKind.u32 ((x:Int)/2^i) 1=((x/2^i%2:Nat):Int):=by
 rw[show (x:Int)/2^i=((x/2^i:Nat):Int) by simp,show (1:Int)=((1:Nat):Int) from rfl,u32_and_nat _ _ hx (by decide),Nat.and_one_is_mod]
theorem mod_next (x i:Nat):x%2^(i+1)=x%2^i+x/2^i%2*2^i:=by
 rw[Nat.pow_succ,Nat.mod_mul,Nat.mul_comm (2^i)]
theorem put_in (B o n V x k:Nat) (v:Value) (w:World) (hW:WAt w B o v V n) (hk:k≤32) (hx:x<2^k) (hn:n+32<1099511627776):
  Calls Tryz.prog 120 #[.pointer (some ⟨B,o,none⟩),.int .u32 (x:Int),.int .i64 (k:Int)] w fun e w'=>e=.returned .nilIface∧∃v',WAt w' B o v' (V+x*2^n) (n+k)∧WStep w w' B o v v':=by
 have hx32:x<4294967296:=Nat.lt_of_lt_of_le hx (Nat.pow_le_pow_right (n:=2) (by decide) hk);have hfit:decide (0≤(k:Int)∧(k:Int)≤32∧x<2^(k:Int).toNat)=true:=by rw[decide_eq_true_iff];exact⟨by omega,by omega,by simpa using hx⟩
 have HX:=Hd hx;have HW:=Hd hW;have HF:=Hd hfit;clear hx hW hfit;go_enter Tryz.func120,Tryz.ntmps120
 go_wp2_with fail;refine (fits_calls x k _ (by omega) (by omega) hx32).mono ?_;rintro e w1 ⟨he,rfl⟩;rw[HF.out] at he;subst he;go_wp2_with fail;go_loopw [7,14] (fun _ c wr=>∃(i:Nat) (u:Value),i≤k∧c=.int .i64 i∧Hid (WAt wr B o u (V+x%2^i*2^n) (n+i))∧Hid (WStep w wr B o v u)) (fun _ c _=>k-(intOf c).toNat)
 case atStart=>
  refine⟨0,v,by omega,rfl,?_,Hd (WStep.refl _ _ _ _)⟩;have q:=HW.out;show WAt _ _ _ _ _ _;simpa [Nat.mod_one] using q
 case round=>
  obtain⟨i,u,hi,rfl,HA,HS⟩:=hrel;by_cases hlt:i<k
  ·go_wp2_with fail;rw[bit_and x i (Nat.lt_of_le_of_lt (Nat.div_le_self _ _) hx32)];refine (one_calls B o (n+i) _ _ u _ HA.out (by omega) (by omega)).mono ?_;rintro e w2 ⟨rfl,u2,hA2,hS2⟩;have HA2:=Hd hA2;have HS2:=Hd (HS.out.trans hS2);clear hA2 hS2 HA HS;go_wp2_with fail;go_roundw
   case rel=>
    refine⟨i+1,u2,by omega,by go_num,?_,HS2⟩;show WAt _ _ _ _ _ _;have e1:V+x%2^(i+1)*2^n=V+x%2^i*2^n+x/2^i%2*2^(n+i):=by
     rw[mod_next,Nat.add_mul,Nat.pow_add,Nat.mul_assoc (x/2^i%2),Nat.mul_comm (2^i) (2^n),Nat.add_assoc]
    rw[e1];exact HA2.out
   case measure=>simp[intOf];omega
  ·obtain rfl:i=k:=by omega
   go_wp2_with fail;go_ret;refine⟨rfl,u,?_,HS.out⟩;have q:=HA.out;rwa [Nat.mod_eq_of_lt HX.out] at q
theorem text_calls (B o n V:Nat) (v:Value) (w:World) (hW:WAt w B o v V n):
  Calls Tryz.prog 123 #[.pointer (some ⟨B,o,none⟩)] w fun e w'=>(∃l:List UInt8,l.length=(n+7)/8∧Crc.num l=V∧e=.returned (.string ⟨l.toArray⟩))∧w=w':=by
 obtain⟨c0,c1,f0,f1,⟨l,hl,hV,hown⟩,hap,hlt⟩:=hW;rcases ownsRow_slice hown with⟨rfl,h0⟩ | ⟨g,cap,rfl⟩
 ·have hcr:(convert 62 9 (.slice none 0 0)).run Tryz.prog w=.ok (.string ⟨l.toArray⟩) w:=by
   obtain rfl:=List.eq_nil_of_length_eq_zero h0;rw[run_convert_bytes_string w 62 9 5 none 0 0 Tryz.underlying62 Tryz.underlying5 Tryz.underlying9];rfl
  have HL:=Hd hl;have HV:=Hd hV;clear hl hV h0;go_enter Tryz.func123,Tryz.ntmps123
  go_wp2
  go_ret;exact⟨⟨l,HL.out,HV.out,rfl⟩,rfl⟩
 ·have hcr:(convert 62 9 (.slice (some ⟨g,0,none⟩) l.length cap)).run Tryz.prog w=.ok (.string ⟨l.toArray⟩) w:=by
   refine run_convert_bytes_back (P:=Tryz.prog) w 62 9 5 ⟨g,0,none⟩ _ l Tryz.underlying62 Tryz.underlying5 Tryz.underlying9 (fun j hj=>?_);rw[add_plain,hown.cellAt _ (by omega),bytesV_get l _ hj]
  have HL:=Hd hl;have HV:=Hd hV;clear hl hV;go_enter Tryz.func123,Tryz.ntmps123
  go_wp2
  go_ret;exact⟨⟨l,HL.out,HV.out,rfl⟩,rfl⟩
structure RAt (w:World) (B o:Nat) (s:ByteArray) (a:Nat):Prop where
 c0:w.cell? ⟨B,o,none⟩=some (.string s)
 c1:w.cell? ⟨B,o+1,none⟩=some (.int .i64 (a:Int))
 f1:w.frozen? ⟨B,o+1,none⟩=false
 size:s.size≤1099511627776
 le:a≤8*s.size+8
structure RStep (w w':World) (B o:Nat):Prop where
 keeps:Keeps (fun k=>k=B) w w'
 cells:∀j,j≠o+1→w'.cell? ⟨B,j,none⟩=w.cell? ⟨B,j,none⟩
 marks:∀j,w'.frozen? ⟨B,j,none⟩=w.frozen? ⟨B,j,none⟩
theorem RStep.refl (w:World) (B o:Nat):RStep w w B o:=⟨Keeps.refl _ _,fun _ _=>rfl,fun _=>rfl⟩
theorem RStep.trans {a b c:World} {B o:Nat} (h:RStep a b B o) (k:RStep b c B o):RStep a c B o:=
 ⟨h.keeps.trans k.keeps fun _ _ q=>q,fun j h1=>(k.cells j h1).trans (h.cells j h1),fun j=>(k.marks j).trans (h.marks j)⟩
theorem RAt.drewN {w:World} {B o a:Nat} {s:ByteArray} (h:RAt w B o s a) (m:Nat):RAt (w.drewN m) B o s a:=⟨h.c0,h.c1,h.f1,h.size,h.le⟩
theorem RStep.drewN {w w':World} {B o:Nat} (h:RStep w w' B o) (m:Nat):RStep w (w'.drewN m) B o:=⟨h.keeps.drewN m,h.cells,h.marks⟩
theorem RAt.put {w:World} {B o a:Nat} {s:ByteArray} (h:RAt w B o s a) (a':Nat) (h':a'≤8*s.size+8):
  RAt (w.setCell ⟨B,o+1,none⟩ (.int .i64 (a':Int))) B o s a'∧RStep w (w.setCell ⟨B,o+1,none⟩ (.int .i64 (a':Int))) B o:=by
 have a3:(⟨B,o+1,none⟩:Addr)≠⟨B,o,none⟩:=by intro e;injection e with _ e2;omega
 refine⟨⟨(World.cell?_setCell_other _ _ _ _ a3).trans h.c0,World.cell?_setCell_same _ _ _ h.c1,?_,h.size,h'⟩,⟨(Keeps.refl (fun k=>k=B) w).setCell (.inl rfl) _,?_,?_⟩⟩
 ·rw[World.frozen?_setCell];exact h.f1
 ·intro j h2;exact World.cell?_setCell_other _ _ _ _ (by intro e;injection e with _ e2;exact h2 e2.symm)
 ·intro j;rw[World.frozen?_setCell]
theorem left_calls (B o a:Nat) (s:ByteArray) (w:World) (hR:RAt w B o s a):
  Calls Tryz.prog 182 #[.pointer (some ⟨B,o,none⟩)] w fun e w'=>e=.returned (.int .i64 (8*(s.size:Int)-a))∧∃m,w'=w.drewN m:=by
 obtain⟨c0,c1,f1,hs,hle⟩:=hR;go_enter Tryz.func182,Tryz.ntmps182
 go_wp2
 go_quiet (fail)
 go_wp2
 go_ret;exact⟨rfl,_,rfl⟩
theorem at_calls (B o a:Nat) (s:ByteArray) (w:World) (hR:RAt w B o s a):
  Calls Tryz.prog 137 #[.pointer (some ⟨B,o,none⟩)] w fun e w'=>e=.returned (.int .i64 (a:Int))∧w=w':=by
 obtain⟨c0,c1,f1,hs,hle⟩:=hR;go_enter Tryz.func137,Tryz.ntmps137
 go_wp2
 go_ret;exact⟨rfl,rfl⟩
theorem newReader_calls (s:ByteArray) (w:World) (hs:s.size≤1099511627776):
  Calls Tryz.prog 134 #[.string s] w fun e w'=>e=.returned (.pointer (some ⟨w.heap.size,0,none⟩))∧RAt w' w.heap.size 0 s 0∧Ext w w':=by
 go_enter Tryz.func134,Tryz.ntmps134
 go_wp2
 go_ret;refine⟨rfl,⟨?_,?_,?_,hs,by omega⟩,?_⟩
 ·rw[World.cell?_alloc_at _ _ _ _ rfl];rfl
 ·rw[World.cell?_alloc_at _ _ _ _ rfl];rfl
 ·rw[World.frozen?_alloc_at _ _ _ _ rfl]
 ·exact ((Below.refl _ _).alloc (Nat.le_refl _) _)
theorem byte_bit (l:List UInt8) (p:Nat) (hj:p/8<l.length):l[p/8].toNat/2^(p%8)%2=Crc.num l/2^p%2:=by
 rw[num_byte l (p/8) hj,show (256:Nat)^(p/8)=2^(8*(p/8)) by rw[Nat.pow_mul],show (256:Nat)=2^8 from rfl];have h:∀x:Nat,x%2^8/2^(p%8)%2=x/2^(p%8)%2:=by
  intro x;have h1:(x%2^8).testBit (p%8)=x.testBit (p%8):=by
   rw[Nat.testBit_mod_two_pow];have:p%8<8:=by omega
   simp[this]
  rw[Nat.testBit_eq_decide_div_mod_eq,Nat.testBit_eq_decide_div_mod_eq,decide_eq_decide] at h1;omega
 rw[h,Nat.div_div_eq_div_mul,← Nat.pow_add,show 8*(p/8)+p%8=p by omega]
theorem get_next (N a i y t:Nat) (hi:i<32) (hy:y<256) (hb:y/2^t%2=N/2^(a+i)%2):
  bits BinOp.or IntKind.u32 ((N:Int)/2^a%2^i) (bits BinOp.and IntKind.u8 ((y:Int)/2^t) 1%4294967296*2^i%4294967296)=((N/2^a%2^(i+1):Nat):Int):=by
 have hp:2^i≤2^31:=Nat.pow_le_pow_right (by decide) (by omega);have e1:bits BinOp.and IntKind.u8 ((y:Int)/2^t) 1=((y/2^t%2:Nat):Int):=by
  have:y/2^t<256:=Nat.lt_of_le_of_lt (Nat.div_le_self _ _) hy;rw[show (y:Int)/2^t=((y/2^t:Nat):Int) by simp,show (1:Int)=((1:Nat):Int) from rfl,u8_and_nat _ _ this (by decide),Nat.and_one_is_mod]
 rw[e1,hb];have e2:((N/2^(a+i)%2:Nat):Int)%4294967296*2^i%4294967296=((N/2^a/2^i%2*2^i:Nat):Int):=by
  rw[Nat.div_div_eq_div_mul,← Nat.pow_add];have hb2:N/2^(a+i)%2<2:=Nat.mod_lt _ (by decide);generalize N/2^(a+i)%2=b at *;rw[show (2:Int)^i=((2^i:Nat):Int) by simp];generalize 2^i=q at *;rcases (show b=0∨b=1 by omega) with h | h <;> subst h <;> omega
 have hm:N/2^a%2^i<2^i:=Nat.mod_lt _ (Nat.two_pow_pos i);rw[e2,show (N:Int)/2^a%2^i=((N/2^a%2^i:Nat):Int) by simp,mod_next];generalize N/2^a=A at *;have hb2:A/2^i%2<2:=Nat.mod_lt _ (by decide);have hB:A/2^i%2*2^i≤2^i:=by
  generalize A/2^i%2=b at *;rcases (show b=0∨b=1 by omega) with h | h <;> subst h <;> omega
 rw[u32_or_nat _ _ (by omega) (by omega)];have h:=Nat.two_pow_add_eq_or_of_lt (i:=i) (b:=A%2^i) hm (A/2^i%2);rw[Nat.mul_comm] at h;rw[Nat.or_comm,← h,Nat.add_comm]
theorem get_in (B o a k:Nat) (s:ByteArray) (w:World) (hR:RAt w B o s a) (hk:k≤32) (ha:a+k≤8*s.size):
  Calls Tryz.prog 172 #[.pointer (some ⟨B,o,none⟩),.int .i64 (k:Int)] w fun e w'=>e=.returned (.tuple #[.int .u32 ((Crc.num s.data.toList/2^a%2^k:Nat):Int),.nilIface])∧RAt w' B o s (a+k)∧RStep w w' B o:=by
 have hle:=hR.le;have hs:=hR.size;have HR:=Hd hR;clear hR;go_enter Tryz.func172,Tryz.ntmps172
 go_wp2_with fail;refine (left_calls B o a s _ HR.out).mono ?_;rintro e w1 ⟨rfl,m,rfl⟩;go_wp2_with fail;go_loopw [6,7,21] (fun x _ c wr=>∃(i:Nat),i≤k∧x=.int .u32 ((Crc.num s.data.toList/2^a%2^i:Nat):Int)∧c=.int .i64 i∧Hid (RAt wr B o s (a+i))∧Hid (RStep w wr B o)) (fun _ _ c _=>k-(intOf c).toNat)
 case atStart=>
  refine⟨0,by omega,by simp[Nat.mod_one],rfl,?_,?_⟩
  ·exact Hd (HR.out.drewN m)
  ·exact Hd ((RStep.refl _ _ _).drewN m)
 case round=>
  obtain⟨i,hi,rfl,rfl,HA,HS⟩:=hrel;by_cases hlt:i<k
  ·obtain⟨c0,c1,f1,_,_⟩:=HA.out;have hj:(a+i)/8<s.size:=by omega
   have hj1:(0:Int)≤((a:Int)+i)/8:=by omega
   have hj2:((a:Int)+i)/8<(s.size:Int):=by omega
   go_wp2_with fail;go_region;go_wp2
   go_roundw
   case rel=>
    have hb:=byte_bit s.data.toList (a+i) (by simpa using hj);refine⟨i+1,by omega,val_int ?_,by go_num,?_,?_⟩
    ·exact get_next (Crc.num s.data.toList) a i _ _ (by omega) (UInt8.toNat_lt _) (by simp at hb;exact hb)
    ·have q:=(HA.out.put (a+i+1) (by omega)).1.drewN 1;rw[show ((a+i+1:Nat):Int)=(a:Int)+i+1 by omega] at q;exact q
    ·have q:=(HA.out.put (a+i+1) (by omega)).2;rw[show ((a+i+1:Nat):Int)=(a:Int)+i+1 by omega] at q;exact (HS.out.trans q).drewN 1
   case measure=>simp[intOf];omega
  ·obtain rfl:i=k:=by omega
   go_wp2_with fail;exact bodyPost_ret (v:=.tuple #[.int .u32 ((Crc.num s.data.toList/2^a%2^i:Nat):Int),.nilIface]) (by simp[results,Tryz.results172,go_sem, *]) rfl ⟨rfl,HA.out,HS.out⟩
structure Er2 (w:World) (E:Nat→Addr):Prop where
  c0:w.cell? ⟨1,0,none⟩=some (.iface 275 (.pointer (some (E 0))))
  c1:w.cell? ⟨2,0,none⟩=some (.iface 275 (.pointer (some (E 1))))
theorem Er2.ext {w w':World} {E:Nat→Addr} (h:Er2 w E) (hE:Ext w w'):Er2 w' E:=
  ⟨(hE.cell (p:=⟨1,0,none⟩) (World.block_lt_of_cell? w _ h.c0)).trans h.c0,(hE.cell (p:=⟨2,0,none⟩) (World.block_lt_of_cell? w _ h.c1)).trans h.c1⟩
theorem Errs.er2 {w:World} {E:Nat→Addr} (h:Errs w E):Er2 w E:=⟨h.var 0 (by decide),h.var 1 (by decide)⟩
theorem get_text2 (B o a k:Nat) (s:ByteArray) (w:World) (E:Nat→Addr) (hE:Er2 w E) (hR:RAt w B o s a) (hk:k≤32) (ha:8*s.size<a+k) (_ha2:a≤8*s.size):
    Calls Tryz.prog 172 #[.pointer (some ⟨B,o,none⟩),.int .i64 (k:Int)] w fun e w'=>e=.returned (.tuple #[.int .u32 0,sentV (E 0)])∧Ext w w':=by
  have c1:=hE.c0;clear hE;go_enter Tryz.func172,Tryz.ntmps172
  go_wp2_with fail;refine (left_calls B o a s _ hR).mono ?_;rintro e w2 ⟨rfl,m,rfl⟩;go_wp2_with fail;go_quiet (fail)
  go_wp2
  unfold sentV;go_ret2;exact⟨rfl,by repeat (first | exact Ext.refl _ | refine Ext.drewN ?_ _)⟩
theorem get_text (B o a k:Nat) (s:ByteArray) (w:World) (E:Nat→Addr) (hE:Errs w E) (hR:RAt w B o s a) (hk:k≤32) (ha:8*s.size<a+k) (ha2:a≤8*s.size):
    Calls Tryz.prog 172 #[.pointer (some ⟨B,o,none⟩),.int .i64 (k:Int)] w fun e w'=>e=.returned (.tuple #[.int .u32 0,sentV (E 0)])∧Ext w w':=
  get_text2 B o a k s w E hE.er2 hR hk ha ha2
theorem WAt.fresh (w:World) (t:TypeId):WAt (w.alloc (.cells #[.slice none 0 0,.int .i64 0] t)) w.heap.size 0 (.slice none 0 0) 0 0:=by
  refine⟨?_,?_,?_,?_,⟨[],rfl,rfl,World.ownsRow_nil _ _ _ _⟩,?_,by decide⟩
  · rw[World.cell?_alloc_at _ _ _ _ rfl];rfl
  · rw[World.cell?_alloc_at _ _ _ _ rfl];rfl
  · rw[World.frozen?_alloc_at _ _ _ _ rfl]
  · rw[World.frozen?_alloc_at _ _ _ _ rfl]
  · intro e;cases e
/-- what a writer did touched only new blocks, if it and its row are new -/
theorem WStep.below {w w':World} {B o H:Nat} {v v':Value} (h:WStep w w' B o v v') (hB:H≤B) (hv:∀k,v.ownBlock=some k→H≤k) (hH:H≤w.heap.size):Below H w w':=
  h.keeps.below hH fun k hk q=>by
    rcases q with q | q
    · omega
    · have:=hv k q;omega
theorem WStep.own {w w':World} {B o H:Nat} {v v':Value} (h:WStep w w' B o v v') (hv:∀k,v.ownBlock=some k→H≤k) (hH:H≤w.heap.size):∀k,v'.ownBlock=some k→H≤k:=by
  intro k hk;rcases h.new k hk with q | q
  · exact hv k q
  · omega
theorem RStep.below {w w':World} {B o H:Nat} (h:RStep w w' B o) (hB:H≤B) (hH:H≤w.heap.size):Below H w w':=
  h.keeps.below hH fun k hk q=>by subst q;omega
end Go.Proofs.YthlibiocadimhaaGreatDoor
