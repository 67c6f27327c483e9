/- What lzw.Unpack holds while it goes: reader, words, text. -/
import Derived.Test.YtdeiolagnheihaaDoorLzwW
import Derived.Test.YtdeiolagnheihaaDoorGetOut
namespace Go.Proofs.YtdeiolagnheihaaDoor
open Go.RowKit
set_option maxRecDepth 100000
structure LSt (w wr : World) (R U : Nat) (s : ByteArray) (c wd most : Nat) (L : List ByteArray) (size : Nat) (last : ByteArray) (out : List UInt8) (a : Nat) (v o : Value) : Prop where
  rd : RAt wr R 0 s a
  ua : UAt wr U v (c + 2 + L.length) (wv c L) (.int .i64 (size : Int)) (.string last)
  row : wr.ownsRow w.heap.size 5 1 o out.length (bytesV out)
  old : Ext w wr
  hR : w.heap.size ≤ R
  hU : w.heap.size ≤ U
  ne : R ≠ U
  vR : v.ownBlock ≠ some R
  vn : ∀ k, v.ownBlock = some k → w.heap.size ≤ k
  oR : o.ownBlock ≠ some R
  oU : o.ownBlock ≠ some U
  ov : ∀ k, o.ownBlock = some k → v.ownBlock ≠ some k
  ok : Lz.Ok c wd most L size last out
  le : a ≤ 8 * s.size
theorem LSt.ltR {w wr : World} {R U c wd most size a : Nat} {s last : ByteArray} {L : List ByteArray} {out : List UInt8} {v o : Value} (h : LSt w wr R U s c wd most L size last out a v o) : R < wr.heap.size := World.block_lt_of_cell? wr _ h.rd.c0
/-- the reader has gone on -/
theorem LSt.get {w wr w' : World} {R U c wd most size a a' : Nat} {s last : ByteArray} {L : List ByteArray} {out : List UInt8} {v o : Value} (h : LSt w wr R U s c wd most L size last out a v o) (hr : RAt w' R 0 s a') (hs : RStep wr w' R 0) (ha : a' ≤ 8 * s.size) :
    LSt w w' R U s c wd most L size last out a' v o := by
  have hn : ∀ k, v.ownBlock = some k → ¬ k = R := fun k hk e => h.vR (e ▸ hk)
  have hn2 : ∀ k, o.ownBlock = some k → ¬ k = R := fun k hk e => h.oR (e ▸ hk)
  exact ⟨hr, ⟨h.ua.bk.keeps hs.keeps (fun e => h.ne e.symm), ownsRow_kept h.ua.row hs.keeps hn, h.ua.ne⟩, ownsRow_kept h.row hs.keeps hn2,
    Below.trans h.old (hs.keeps.below h.old.size (fun k hk e => by have := h.hR; omega)), h.hR, h.hU, h.ne, h.vR, h.vn, h.oR, h.oU, h.ov, h.ok, ha⟩
theorem LSt.ext {w wr w' : World} {R U c wd most size a : Nat} {s last : ByteArray} {L : List ByteArray} {out : List UInt8} {v o : Value} (h : LSt w wr R U s c wd most L size last out a v o) (hE : Ext wr w') :
    LSt w w' R U s c wd most L size last out a v o :=
  ⟨⟨(hE.cell (p := ⟨R, 0, none⟩) h.ltR).trans h.rd.c0, (hE.cell (p := ⟨R, 0 + 1, none⟩) h.ltR).trans h.rd.c1, (hE.frozen (p := ⟨R, 0 + 1, none⟩) h.ltR).trans h.rd.f1, h.rd.size, h.rd.le⟩, h.ua.ext hE,
    ownsRow_kept h.row (hE.keeps (S := fun _ => False)) (fun _ _ q => q), h.old.trans hE, h.hR, h.hU, h.ne, h.vR, h.vn, h.oR, h.oU, h.ov, h.ok, h.le⟩
theorem RAt.keeps {S : Nat → Prop} {w w' : World} {B o a : Nat} {s : ByteArray} (h : RAt w B o s a) (hk : Keeps S w w') (hn : ¬ S B) : RAt w' B o s a := by
  have hl : B < w.heap.size := World.block_lt_of_cell? w _ h.c0
  exact ⟨(hk.cell (p := ⟨B, o, none⟩) hl hn).trans h.c0, (hk.cell (p := ⟨B, o + 1, none⟩) hl hn).trans h.c1, (hk.frozen (p := ⟨B, o + 1, none⟩) hl hn).trans h.f1, h.size, h.le⟩
/-- all words are cleared -/
theorem LSt.clear {w wr w' : World} {R U c wd most size a : Nat} {s last : ByteArray} {L : List ByteArray} {out : List UInt8} {v o v' : Value} (h : LSt w wr R U s c wd most L size last out a v o) (hc : c + 2 ≤ 4096) (hw : 2 ≤ wd) (hw2 : wd ≤ 8)
    (hA : UAt w' U v' (c + 2) (wv c []) (.int .i64 ((wd : Int) + 1)) (.string ⟨#[]⟩)) (hK : Keeps (fun k => k = U) wr w') (hn : ∀ k, v'.ownBlock = some k → wr.heap.size ≤ k) :
    LSt w w' R U s c wd most [] (wd + 1) ByteArray.empty out a v' o := by
  have hl := h.ltR
  have hz := h.old.size
  refine ⟨h.rd.keeps hK h.ne, hA, ownsRow_kept h.row hK (fun k hk e => h.oU (e ▸ hk)), Below.trans h.old (hK.below hz (fun k hk e => by have := h.hU; omega)), h.hR, h.hU, h.ne, fun e => by have := hn R e; omega,
    fun k hk => by have := hn k hk; omega, h.oR, h.oU, fun k hk e => by have h1 := hn k e; have h2 := (h.row.lt k hk).2; omega, Lz.Ok.fresh hc hw hw2 h.ok.out, h.le⟩
/-- a word has been read, and the list has grown by one -/
theorem LSt.word {w wr w' : World} {R U c wd most size size' a : Nat} {s last last' : ByteArray} {L L' : List ByteArray} {out : List UInt8} {v o v' : Value} (h : LSt w wr R U s c wd most L size last out a v o)
    (_hA : UAt w' U v' (c + 2 + L'.length) (wv c L') (.int .i64 (size' : Int)) (.string last')) (hS : UStep wr w' U v v') :
    RAt w' R 0 s a ∧ w'.ownsRow w.heap.size 5 1 o out.length (bytesV out) ∧ Ext w w' ∧ v'.ownBlock ≠ some R ∧ (∀ k, v'.ownBlock = some k → w.heap.size ≤ k) ∧ (∀ k, o.ownBlock = some k → v'.ownBlock ≠ some k) := by
  have hl := h.ltR
  have hz := h.old.size
  refine ⟨h.rd.keeps hS.keeps (fun e => e.elim h.ne h.vR), ownsRow_kept h.row hS.keeps (fun k hk e => e.elim (fun e => h.oU (e ▸ hk)) (h.ov k hk)), Below.trans h.old (hS.keeps.below hz (fun k hk e => e.elim (fun e => by have := h.hU; omega) (fun e => by have := h.vn k e; omega))), ?_, ?_, ?_⟩
  · intro e
    rcases hS.new R e with q | q
    · exact h.vR q
    · omega
  · intro k hk
    rcases hS.new k hk with q | q
    · exact h.vn k q
    · omega
  · intro k hk e
    rcases hS.new k e with q | q
    · exact h.ov k hk q
    · have := (h.row.lt k hk).2; omega
/-- a row of bytes lies in no block that begins with something else -/
theorem row_apart {w : World} {base n k : Nat} {o x : Value} {l : List UInt8} (h : w.ownsRow base 5 1 o n (bytesV l)) (hn : 0 < n) (hl : 0 < l.length) (hx : w.cell? ⟨k, 0, none⟩ = some x) (hne : ∀ z, x ≠ .int .u8 z) : o.ownBlock ≠ some k := by
  intro e
  obtain ⟨g, cap, rfl, _, _⟩ := ownsRow_some h hn
  obtain rfl : g = k := Option.some.inj (show some g = some k from e)
  have hc := h.cellAt 0 (by omega)
  rw [bytesV_get l 0 hl, hx] at hc
  exact hne _ (Option.some.inj hc)
/-- the word has been laid behind the text -/
theorem LSt.push {w wr w1 w' : World} {R U c wd most size size' a : Nat} {s last x : ByteArray} {L L' : List ByteArray} {out : List UInt8} {v v' o o' : Value} (h : LSt w wr R U s c wd most L size last out a v o)
    (hA : UAt w1 U v' (c + 2 + L'.length) (wv c L') (.int .i64 (size' : Int)) (.string x)) (hS : UStep wr w1 U v v') (hc : 0 < c) (hx : x.size ≠ 0) (hok : Lz.Ok c wd most L' size' x (out ++ x.data.toList))
    (hg : w1.grownBy w' o.ownBlock) (ho : w'.ownsRow w.heap.size 5 1 o' (out.length + x.size) (bytesV out ++ Lib.strCells x)) :
    LSt w w' R U s c wd most L' size' x (out ++ x.data.toList) a v' o' := by
  obtain ⟨p1, p2, p3, p4, p5, p6⟩ := h.word hA hS
  have hK := Keeps.grown hg
  have hrd := p1.keeps hK h.oR
  obtain ⟨q1, q2⟩ := grow_str p3 p2 hg ho
  have hl : (out ++ x.data.toList).length = out.length + x.size := by rw [List.length_append, list_size]
  have hpos : 0 < (out ++ x.data.toList).length := by omega
  have hbk : Bk w' U _ := hA.bk.keeps hK h.oU
  have hrow := ownsRow_kept hA.row hK (fun k hk e => p6 k e hk)
  rw [← hl] at q1
  refine ⟨hrd, ⟨hbk, hrow, hA.ne⟩, q1, q2, h.hR, h.hU, h.ne, p4, p5, ?_, ?_, ?_, hok, h.le⟩
  · exact row_apart q1 hpos hpos hrd.c0 (fun z e => by cases e)
  · refine row_apart q1 hpos hpos (hbk.cell 0) (fun z e => ?_)
    have e2 : v' = .int .u8 z := e
    obtain ⟨xo, cc, hlit⟩ := lit_row hA.row
    rw [hlit] at e2; cases e2
  · intro k hk e
    obtain ⟨g, cap, hv, _, _⟩ := ownsRow_some hrow (by omega)
    have hgk : g = k := by rw [hv] at e; exact Option.some.inj (show some g = some k from e)
    subst hgk
    rw [hv] at hrow
    refine row_apart q1 hpos hpos (x := .string (Lz.one 0)) ?_ (fun z e => by cases e) hk
    rw [hrow.cellAt 0 (by omega)]
    exact wv_low L' hc
end Go.Proofs.YtdeiolagnheihaaDoor
