/-
  The document's reader of a block's words: its memory on its way.
-/
import Derived.Test.YtnhbjgmfbcedaaaDoorDeflatePacksG1
import Derived.Test.YtnhbjgmfbcedaaaDoorDeflatePacksG20
set_option linter.unusedSimpArgs false
set_option linter.unusedVariables false
set_option maxRecDepth 100000
namespace Go.Proofs.YtnhbjgmfbcedaaaDoor
open Go.RowKit
/-- tokens as cells -/
def tokV (l : List Tk) : List Value := l.flatMap fun t => [.int .u8 (t.b.toNat : Int), .int .i64 t.l, .int .i64 t.d]
theorem tokV_push (l : List Tk) (t : Tk) : tokV (l ++ [t]) = tokV l ++ [.int .u8 (t.b.toNat : Int), .int .i64 t.l, .int .i64 t.d] := by simp [tokV]
theorem tokinfo : (Tryd.prog.info? 84).map (fun i => (i.zero, i.size, i.bytes)) = some (some (.agg #[.int .u8 0, .int .i64 0, .int .i64 0]), 3, 24) := by kernel_rfl
/-- the cells of a reader of words -/
def qx (x : Nat → Value) (B7 B8 : Nat) (vo vt : Value) : Nat → Value := fun i => if i = 2 then vo else if i = 7 then .slice (some ⟨B7, 0, none⟩) 300 300 else if i = 8 then .slice (some ⟨B8, 0, none⟩) 40 40 else if i = 11 then vt else x i
structure WGo (w wr : World) (Q B7 B8 : Nat) (T : ByteArray) (a e : Nat) (x : Nat → Value) (v0 t0 vo vt : Value) (out : List UInt8) (tks : List Tk) (f7 f8 : Nat → Int) : Prop where
 bk : Bk wr Q (qc T a e (qx x B7 B8 vo vt))
 row : wr.ownsRow 0 5 1 vo out.length (bytesV out)
 trow : wr.ownsRow 0 84 3 vt tks.length (tokV tks)
 c7 : Cs wr B7 300 .i64 f7
 c8 : Cs wr B8 40 .i64 f8
 voQ : vo.ownBlock ≠ some Q
 vtQ : vt.ownBlock ≠ some Q
 vot : ∀ k, vo.ownBlock = some k → vt.ownBlock ≠ some k
 b78 : B7 ≠ Q ∧ B8 ≠ Q ∧ B7 ≠ B8
 vo78 : vo.ownBlock ≠ some B7 ∧ vo.ownBlock ≠ some B8
 vt78 : vt.ownBlock ≠ some B7 ∧ vt.ownBlock ≠ some B8
 keeps : Keeps (fun k => k = Q ∨ v0.ownBlock = some k ∨ t0.ownBlock = some k) w wr
 new : ∀ k, vo.ownBlock = some k → v0.ownBlock = some k ∨ w.heap.size ≤ k
 newt : ∀ k, vt.ownBlock = some k → t0.ownBlock = some k ∨ w.heap.size ≤ k
 n78 : w.heap.size ≤ B7 ∧ w.heap.size ≤ B8
section
variable {w wr w' : World} {Q B7 B8 a a' e e' : Nat} {T : ByteArray} {x : Nat → Value} {v0 t0 vo vt vo' vt' : Value} {out : List UInt8} {tks : List Tk} {f7 f8 : Nat → Int}
theorem WGo.b7lt (h : WGo w wr Q B7 B8 T a e x v0 t0 vo vt out tks f7 f8) : B7 < wr.heap.size := World.block_lt_of_cell? wr _ (h.c7 0 (by decide)).1
theorem WGo.b8lt (h : WGo w wr Q B7 B8 T a e x v0 t0 vo vt out tks f7 f8) : B8 < wr.heap.size := World.block_lt_of_cell? wr _ (h.c8 0 (by decide)).1
theorem WGo.kt {S : Nat → Prop} (h : WGo w wr Q B7 B8 T a e x v0 t0 vo vt out tks f7 f8) (hk : Keeps S wr w') (hS : ∀ k, k < wr.heap.size → S k → k = Q ∨ vo.ownBlock = some k ∨ vt.ownBlock = some k ∨ k = B7 ∨ k = B8) : Keeps (fun k => k = Q ∨ v0.ownBlock = some k ∨ t0.ownBlock = some k) w w' :=
 h.keeps.trans hk (fun i hi q => by
  have h1 := h.keeps.size;rcases hS i (by omega) q with q | q | q | q | q
  ·exact .inl q
  ·rcases h.new i q with r | r
   ·exact .inr (.inl r)
   ·omega
  ·rcases h.newt i q with r | r
   ·exact .inr (.inr r)
   ·omega
  ·have := h.n78; omega
  ·have := h.n78; omega)
theorem WGo.quiet (h : WGo w wr Q B7 B8 T a e x v0 t0 vo vt out tks f7 f8) (hk : Keeps (fun k => k = Q) wr w') (hb : Bk w' Q (qc T a' e' (qx x B7 B8 vo vt))) : WGo w w' Q B7 B8 T a' e' x v0 t0 vo vt out tks f7 f8 :=
 ⟨hb, ownsRow_kept h.row hk (fun k q e => h.voQ (by rw [q, e])), ownsRow_kept h.trow hk (fun k q e => h.vtQ (by rw [q, e])), cs_keeps h.c7 hk h.b78.1, cs_keeps h.c8 hk h.b78.2.1, h.voQ, h.vtQ, h.vot, h.b78, h.vo78, h.vt78, h.kt hk (fun _ _ q => .inl q), h.new, h.newt, h.n78⟩
theorem WGo.ext (h : WGo w wr Q B7 B8 T a e x v0 t0 vo vt out tks f7 f8) (hE : Ext wr w') : WGo w w' Q B7 B8 T a e x v0 t0 vo vt out tks f7 f8 := h.quiet hE.keeps (h.bk.ext hE)
theorem WGo.use7 (h : WGo w wr Q B7 B8 T a e x v0 t0 vo vt out tks f7 f8) (k : Nat) (z : Int) (hk : k < 300) : WGo w (wr.setCell ⟨B7, k, none⟩ (.int .i64 z)) Q B7 B8 T a e x v0 t0 vo vt out tks (Inf.upd f7 k z) f8 := by
 have hK : Keeps (fun k => k = B7) wr (wr.setCell ⟨B7, k, none⟩ (.int .i64 z)) := (Keeps.refl (fun k => k = B7) wr).setCell (p := ⟨B7, k, none⟩) (.inl rfl) _;exact ⟨h.bk.keeps hK (fun q => h.b78.1 q.symm), ownsRow_kept h.row hK (fun k q e => h.vo78.1 (by rw [q, e])), ownsRow_kept h.trow hK (fun k q e => h.vt78.1 (by rw [q, e])), h.c7.put k z _ hk (fun i _ => rfl), cs_keeps h.c8 hK (fun q => h.b78.2.2 q.symm), h.voQ, h.vtQ, h.vot, h.b78, h.vo78, h.vt78, h.kt hK (fun _ _ q => .inr (.inr (.inr (.inl q)))), h.new, h.newt, h.n78⟩
theorem WGo.use8 (h : WGo w wr Q B7 B8 T a e x v0 t0 vo vt out tks f7 f8) (k : Nat) (z : Int) (hk : k < 40) : WGo w (wr.setCell ⟨B8, k, none⟩ (.int .i64 z)) Q B7 B8 T a e x v0 t0 vo vt out tks f7 (Inf.upd f8 k z) := by
 have hK : Keeps (fun k => k = B8) wr (wr.setCell ⟨B8, k, none⟩ (.int .i64 z)) := (Keeps.refl (fun k => k = B8) wr).setCell (p := ⟨B8, k, none⟩) (.inl rfl) _;exact ⟨h.bk.keeps hK (fun q => h.b78.2.1 q.symm), ownsRow_kept h.row hK (fun k q e => h.vo78.2 (by rw [q, e])), ownsRow_kept h.trow hK (fun k q e => h.vt78.2 (by rw [q, e])), cs_keeps h.c7 hK (fun q => h.b78.2.2 q), h.c8.put k z _ hk (fun i _ => rfl), h.voQ, h.vtQ, h.vot, h.b78, h.vo78, h.vt78, h.kt hK (fun _ _ q => .inr (.inr (.inr (.inr q)))), h.new, h.newt, h.n78⟩
/-- a byte more -/
theorem WGo.byte {L : Nat} {wb : World} {y : UInt8} (h : WGo w wr Q B7 B8 T a e x v0 t0 vo vt out tks f7 f8) (hL : out.length = L) (hE : Ext wr wb) (hg : wb.grownBy w' vo.ownBlock) (ho : w'.ownsRow 0 5 1 vo' (L + 1) (bytesV out ++ [.int .u8 (y.toNat : Int)]))
  (hat : vo'.ownBlock = vo.ownBlock ∨ vo'.ownBlock = some wb.heap.size) : Bk w' Q (qc T a e (qx x B7 B8 vo vt)) ∧ WGo w (w'.setCell ⟨Q, 2, none⟩ vo') Q B7 B8 T a e x v0 t0 vo' vt (out ++ [y]) tks f7 f8 := by
 have hQl : Q < wr.heap.size := h.bk.lt;have h7l := h.b7lt;have h8l := h.b8lt;have hs := hE.size;have hv : ∀ k, vo'.ownBlock = some k → vo.ownBlock = some k ∨ wr.heap.size ≤ k := by
  intro k hk;rcases hat with q | q
  ·rw [q] at hk; exact .inl hk
  ·rw [q] at hk; injection hk with hk; exact .inr (by omega)
 have hvn : ∀ k, k < wr.heap.size → vo.ownBlock ≠ some k → vo'.ownBlock ≠ some k := fun k hk hn q => by
  rcases hv k q with r | r
  ·exact hn r
  ·omega
 have hbk := (h.bk.ext hE).keeps (Keeps.grown hg) h.voQ;have hK0 : Keeps (fun k => vo.ownBlock = some k) wr w' := (hE.keeps (S := fun k => vo.ownBlock = some k)).trans (Keeps.grown hg) (fun _ _ q => q);have hK : Keeps (fun k => k = Q ∨ vo.ownBlock = some k) wr (w'.setCell ⟨Q, 2, none⟩ vo') := (hK0.mono (fun _ _ q => .inr q)).setCell (p := ⟨Q, 2, none⟩) (.inl (.inl rfl)) _;refine ⟨hbk, ?_, ?_, ownsRow_kept h.trow hK ?_, cs_keeps h.c7 hK ?_, cs_keeps h.c8 hK ?_, hvn Q hQl h.voQ, h.vtQ, ?_, h.b78, ⟨hvn B7 h7l h.vo78.1, hvn B8 h8l h.vo78.2⟩, h.vt78, h.kt hK ?_, ?_, h.newt, h.n78⟩
 ·have := hbk.putx 2 (.inl rfl) vo';rwa [qc_congr (y := qx x B7 B8 vo' vt) (fun i _ => by unfold xset qx; split <;> rfl)] at this
 ·have e : bytesV (out ++ [y]) = bytesV out ++ [.int .u8 (y.toNat : Int)] := by simp [bytesV]
  rw [e, List.length_append, hL];exact ownsRow_setCell_other ho (hvn Q hQl h.voQ) _
 ·intro k q r;rcases r with r | r
  ·exact h.vtQ (by rw [q, r])
  ·exact h.vot k r q
 ·rintro (r | r)
  ·exact h.b78.1 r
  ·exact h.vo78.1 r
 ·rintro (r | r)
  ·exact h.b78.2.1 r
  ·exact h.vo78.2 r
 ·intro k q r;have := ownsRow_lt h.trow r;exact hvn k this (fun s => h.vot k s r) q
 ·intro k _ r;rcases r with r | r
  ·exact .inl r
  ·exact .inr (.inl r)
 ·intro k q;rcases hv k q with r | r
  ·exact h.new k r
  ·exact .inr (Nat.le_trans h.keeps.size r)
/-- a token more -/
theorem WGo.tok {M : Nat} {wb : World} {t : Tk} (h : WGo w wr Q B7 B8 T a e x v0 t0 vo vt out tks f7 f8) (hM : tks.length = M) (hE : Ext wr wb) (hg : wb.grownBy w' vt.ownBlock) (ho : w'.ownsRow 0 84 3 vt' (M + 1) (tokV tks ++ [.int .u8 (t.b.toNat : Int), .int .i64 t.l, .int .i64 t.d]))
  (hat : vt'.ownBlock = vt.ownBlock ∨ vt'.ownBlock = some wb.heap.size) : Bk w' Q (qc T a e (qx x B7 B8 vo vt)) ∧ WGo w (w'.setCell ⟨Q, 11, none⟩ vt') Q B7 B8 T a e x v0 t0 vo vt' out (tks ++ [t]) f7 f8 := by
 have hQl : Q < wr.heap.size := h.bk.lt;have h7l := h.b7lt;have h8l := h.b8lt;have hs := hE.size;have hv : ∀ k, vt'.ownBlock = some k → vt.ownBlock = some k ∨ wr.heap.size ≤ k := by
  intro k hk;rcases hat with q | q
  ·rw [q] at hk; exact .inl hk
  ·rw [q] at hk; injection hk with hk; exact .inr (by omega)
 have hvn : ∀ k, k < wr.heap.size → vt.ownBlock ≠ some k → vt'.ownBlock ≠ some k := fun k hk hn q => by
  rcases hv k q with r | r
  ·exact hn r
  ·omega
 have hbk := (h.bk.ext hE).keeps (Keeps.grown hg) h.vtQ;have hK0 : Keeps (fun k => vt.ownBlock = some k) wr w' := (hE.keeps (S := fun k => vt.ownBlock = some k)).trans (Keeps.grown hg) (fun _ _ q => q);have hK : Keeps (fun k => k = Q ∨ vt.ownBlock = some k) wr (w'.setCell ⟨Q, 11, none⟩ vt') := (hK0.mono (fun _ _ q => .inr q)).setCell (p := ⟨Q, 11, none⟩) (.inl (.inl rfl)) _;refine ⟨hbk, ?_, ownsRow_kept h.row hK ?_, ?_, cs_keeps h.c7 hK ?_, cs_keeps h.c8 hK ?_, h.voQ, hvn Q hQl h.vtQ, ?_, h.b78, h.vo78, ⟨hvn B7 h7l h.vt78.1, hvn B8 h8l h.vt78.2⟩, h.kt hK ?_, h.new, ?_, h.n78⟩
 ·have := hbk.putx 11 (by simp) vt';rwa [qc_congr (y := qx x B7 B8 vo vt') (fun i _ => by
   unfold xset qx;by_cases h11 : i = 11
   ·subst h11; rfl
   ·rw [if_neg h11]; simp only [if_neg h11])] at this
 ·intro k q r;rcases r with r | r
  ·exact h.voQ (by rw [q, r])
  ·exact h.vot k q r
 ·rw [tokV_push, List.length_append, hM];exact ownsRow_setCell_other ho (hvn Q hQl h.vtQ) _
 ·rintro (r | r)
  ·exact h.b78.1 r
  ·exact h.vt78.1 r
 ·rintro (r | r)
  ·exact h.b78.2.1 r
  ·exact h.vt78.2 r
 ·intro k q;have := ownsRow_lt h.row q;exact hvn k this (h.vot k q)
 ·intro k _ r;rcases r with r | r
  ·exact .inl r
  ·exact .inr (.inr (.inl r))
 ·intro k q;rcases hv k q with r | r
  ·exact h.newt k r
  ·exact .inr (Nat.le_trans h.keeps.size r)
end
/-- a reader ahead of a block's words -/
structure WIn (w : World) (Q : Nat) (T : ByteArray) (a : Nat) (x : Nat → Value) (vo vt : Value) (out : List UInt8) (tks : List Tk) : Prop where
 bk : Bk w Q (qc T a 0 x)
 x2 : x 2 = vo
 x11 : x 11 = vt
 row : w.ownsRow 0 5 1 vo out.length (bytesV out)
 trow : w.ownsRow 0 84 3 vt tks.length (tokV tks)
 voQ : vo.ownBlock ≠ some Q
 vtQ : vt.ownBlock ≠ some Q
 vot : ∀ k, vo.ownBlock = some k → vt.ownBlock ≠ some k
theorem WIn.start {w wr : World} {Q B7 B8 a : Nat} {T : ByteArray} {x : Nat → Value} {vo vt : Value} {out : List UInt8} {tks : List Tk} (h : WIn w Q T a x vo vt out tks) (hb : Bk wr Q (qc T a 0 (qx x B7 B8 vo vt))) (hk : Keeps (fun k => k = Q) w wr)
  (c7 : Cs wr B7 300 .i64 (fun _ => 0)) (c8 : Cs wr B8 40 .i64 (fun _ => 0)) (h7 : w.heap.size ≤ B7) (h8 : B7 < B8) : WGo w wr Q B7 B8 T a 0 x vo vt vo vt out tks (fun _ => 0) (fun _ => 0) := by
 have hQl : Q < w.heap.size := h.bk.lt;refine ⟨hb, ownsRow_kept h.row hk (fun k q e => h.voQ (by rw [q, e])), ownsRow_kept h.trow hk (fun k q e => h.vtQ (by rw [q, e])), c7, c8, h.voQ, h.vtQ, h.vot, ⟨by omega, by omega, by omega⟩, ⟨fun q => ?_, fun q => ?_⟩, ⟨fun q => ?_, fun q => ?_⟩, hk.mono (fun _ _ q => .inl q), fun _ q => .inl q, fun _ q => .inl q, ⟨h7, by omega⟩⟩
 ·have := ownsRow_lt h.row q; omega
 ·have := ownsRow_lt h.row q; omega
 ·have := ownsRow_lt h.trow q; omega
 ·have := ownsRow_lt h.trow q; omega
namespace Inf
/-- how often a symbol, and a distance, stand in what was read -/
def use7 (tr : List Ev) (i : Nat) : Int := ((tr.countP fun e => e.k = i : Nat) : Int)
def use8 (tr : List Ev) (i : Nat) : Int := ((tr.countP fun e => 256 < e.k ∧ e.d = i : Nat) : Int)
def tkOf (e : Ev) : List Tk := if e.k < 256 then [⟨UInt8.ofNat e.k, 0, 0⟩] else if e.k = 256 then [] else [⟨0, e.n, e.back⟩]
def tksOf (tr : List Ev) : List Tk := tr.flatMap tkOf
theorem use7_push (tr : List Ev) (e : Ev) : use7 (tr ++ [e]) = upd (use7 tr) e.k (use7 tr e.k + 1) := by
 funext i; unfold use7 upd; rw [List.countP_append]
 by_cases h : i = e.k
 ·subst h; simp
 ·rw [if_neg h]; simp [Ne.symm h]
theorem use8_low (tr : List Ev) (e : Ev) (h : e.k ≤ 256) : use8 (tr ++ [e]) = use8 tr := by
 funext i; unfold use8; rw [List.countP_append]; simp [show ¬ 256 < e.k by omega]
theorem use8_push (tr : List Ev) (e : Ev) (h : 256 < e.k) : use8 (tr ++ [e]) = upd (use8 tr) e.d (use8 tr e.d + 1) := by
 funext i; unfold use8 upd; rw [List.countP_append]
 by_cases q : i = e.d
 ·subst q; simp [h]
 ·rw [if_neg q]; simp [Ne.symm q]
theorem use7_bd (tr : List Ev) (i : Nat) : 0 ≤ use7 tr i ∧ use7 tr i ≤ (tr.length : Int) := by
 unfold use7; have := List.countP_le_length (p := fun e : Ev => decide (e.k = i)) (l := tr); omega
theorem use8_bd (tr : List Ev) (i : Nat) : 0 ≤ use8 tr i ∧ use8 tr i ≤ (tr.length : Int) := by
 unfold use8; have := List.countP_le_length (p := fun e : Ev => decide (256 < e.k ∧ e.d = i)) (l := tr); omega
theorem tksOf_push (tr : List Ev) (e : Ev) : tksOf (tr ++ [e]) = tksOf tr ++ tkOf e := by simp [tksOf]
theorem tksOf_len (tr : List Ev) : (tksOf tr).length ≤ tr.length := by
 induction tr with
 | nil => simp [tksOf]
 | cons e tr ih =>
  have h1 : (tkOf e).length ≤ 1 := by unfold tkOf; split; (simp); split <;> simp
  simp only [tksOf, List.flatMap_cons, List.length_append, List.length_cons] at ih ⊢; omega
end Inf
end Go.Proofs.YtnhbjgmfbcedaaaDoor
