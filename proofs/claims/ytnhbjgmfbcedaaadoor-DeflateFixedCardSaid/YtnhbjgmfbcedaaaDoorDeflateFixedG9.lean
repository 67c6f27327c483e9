/-
  deflate.fixed: tokens in one fixed block.
-/
import Derived.Test.YtnhbjgmfbcedaaaDoorDeflateFixedG7
import Derived.Test.YtnhbjgmfbcedaaaDoorDeflateFixedG8
namespace Go.Proofs.YtnhbjgmfbcedaaaDoor
open Go.RowKit
set_option linter.unusedSimpArgs false
set_option linter.unusedVariables false
set_option maxRecDepth 100000
theorem xa {α : Type} : type_of% (@List.getElem_toArray α) := @List.getElem_toArray α
theorem xb {α : Type} : type_of% (@List.getElem_cons_succ α) := @List.getElem_cons_succ α
theorem xc {α : Type} : type_of% (@List.getElem_cons_zero α) := @List.getElem_cons_zero α
theorem xd {α : Type} : type_of% (@List.setIfInBounds_toArray α) := @List.setIfInBounds_toArray α
theorem xe {α : Type} : type_of% (@List.set_cons_zero α) := @List.set_cons_zero α
theorem xf {α : Type} : type_of% (@List.set_cons_succ α) := @List.set_cons_succ α
theorem xg {α : Type} : type_of% (@List.getElem?_toArray α) := @List.getElem?_toArray α
theorem xh {α : Type} : type_of% (@List.getElem?_cons_succ α) := @List.getElem?_cons_succ α
theorem xi {α : Type} : type_of% (@List.getElem?_cons_zero α) := @List.getElem?_cons_zero α
/-- a row of one cell an element, that the call made -/
def OwnR (w : World) (base : Nat) (e : TypeId) (v : Value) (n : Nat) (xs : List Value) : Prop := w.ownsRow base e 1 v n xs
theorem OwnR.ext {w w' : World} {base : Nat} {e : TypeId} {v : Value} {n : Nat} {xs : List Value} (h : OwnR w base e v n xs) (hE : Ext w w') : OwnR w' base e v n xs := ownsRow_kept h hE.keeps (fun _ _ => id)
theorem OwnR.apart {w : World} {b1 b2 : Nat} {e1 e2 : TypeId} {v1 v2 : Value} {n1 n2 : Nat} {x1 x2 : List Value} (h1 : OwnR w b1 e1 v1 n1 x1) (h2 : OwnR w b2 e2 v2 n2 x2) (he : e1 ≠ e2) : ∀ k, v1.ownBlock = some k → ¬ v2.ownBlock = some k := by
 intro k k1 k2
 rcases h1.2 with ⟨q1, _⟩ | ⟨g1, c1, r1, q1, _, hh1, _⟩
 ·rw [q1] at k1; cases k1
 ·rcases h2.2 with ⟨q2, _⟩ | ⟨g2, c2, r2, q2, _, hh2, _⟩
  ·rw [q2] at k2; cases k2
  ·rw [q1] at k1
   rw [q2] at k2
   have a1 : g1 = k := by simpa [Value.ownBlock] using k1
   have a2 : g2 = k := by simpa [Value.ownBlock] using k2
   rw [a1] at hh1
   rw [a2, hh1] at hh2
   injection hh2 with hh2
   injection hh2 with _ hh2
   exact he hh2
theorem OwnR.grown {w w' : World} {b1 b2 : Nat} {e1 e2 : TypeId} {v1 v2 : Value} {n1 n2 : Nat} {x1 x2 : List Value} (h1 : OwnR w b1 e1 v1 n1 x1) (h2 : OwnR w b2 e2 v2 n2 x2) (he : e1 ≠ e2) (hg : w.grownBy w' v2.ownBlock) : OwnR w' b1 e1 v1 n1 x1 :=
 ownsRow_kept h1 (Keeps.grown hg) (fun k hk => h1.apart h2 he k hk)
theorem Bk.grown {w w' : World} {b base : Nat} {cs : Array Value} {e : TypeId} {v : Value} {n : Nat} {xs : List Value} (h : Bk w b cs) (h2 : OwnR w base e v n xs) (hb : b < base ∨ ∀ k, v.ownBlock = some k → k < b) (hg : w.grownBy w' v.ownBlock) : Bk w' b cs :=
 h.keeps (Keeps.grown hg) (fun hk => by
  rcases hb with hb | hb
  ·have := (World.ownsRow.lt h2 b hk).1; omega
  ·have := hb b hk; omega)
theorem own_lit {w : World} {base : Nat} {e : TypeId} {v : Value} {n : Nat} {xs : List Value} (h : OwnR w base e v n xs) : ∃ x c, v = .slice x n c := by
 rcases ownsRow_slice h with ⟨q1, q2⟩ | ⟨g, c, q⟩
 ·exact ⟨none, 0, by rw [q1, q2]⟩
 ·exact ⟨_, _, q⟩
def u32V (n : Nat) : List Value := (List.range n).map fun i : Nat => Value.int .u32 (i : Int)
/-- the memory while the fixed code's distances are laid -/
def FixAt (w4 wz : World) (B D Wb : Nat) (la : Addr) (lc cb i : Nat) : Prop :=
 ∃ x2 c2 x4 c4, Keeps (fun k => k = D) w4 wz ∧ Bk wz D #[.pointer (some ⟨Wb, 0, none⟩), .slice (some la) 288 lc, .slice x2 i c2, .slice (some ⟨cb, 0, none⟩) 288 288, .slice x4 i c4] ∧
  OwnR wz B 3 (.slice x2 i c2) i (intsV i Inf.fiveF) ∧ OwnR wz B 70 (.slice x4 i c4) i (u32V i)
theorem fix_end {w4 wz : World} {B D Wb : Nat} {la : Addr} {lc cb i c2 c4 : Nat} {x2 x4 : Option Addr} (hX : Keeps (fun k => k = D) w4 wz)
  (hD : Bk wz D #[.pointer (some ⟨Wb, 0, none⟩), .slice (some la) 288 lc, .slice x2 (i + 1) c2, .slice (some ⟨cb, 0, none⟩) 288 288, .slice x4 (i + 1) c4])
  (h2 : OwnR wz B 3 (.slice x2 (i + 1) c2) (i + 1) (intsV i Inf.fiveF ++ [.int .i64 5])) (h4 : OwnR wz B 70 (.slice x4 (i + 1) c4) (i + 1) (u32V i ++ [.int .u32 (i : Int)])) : FixAt w4 wz B D Wb la lc cb (i + 1) := by
 refine ⟨x2, c2, x4, c4, hX, hD, ?_, ?_⟩
 ·rw [show intsV (i + 1) Inf.fiveF = intsV i Inf.fiveF ++ [.int .i64 5] by unfold intsV; rw [List.range_succ, List.map_append]; rfl]; exact h2
 ·rw [show u32V (i + 1) = u32V i ++ [.int .u32 (i : Int)] by unfold u32V; rw [List.range_succ, List.map_append]; rfl]; exact h4
theorem u32s_own {w : World} {base : Nat} {x : Option Addr} {n c : Nat} (h : OwnR w base 70 (.slice x n c) n (u32V n)) : U32s w x n (fun i => i) := by
 rcases ownsRow_slice h with ⟨q1, q2⟩ | ⟨g, cap, q⟩
 ·injection q1 with q1
  subst q1
  subst q2
  exact ⟨fun _ => rfl, fun a h => by cases h⟩
 ·injection q with q _ _
  subst q
  refine ⟨fun h => (by cases h), fun a ha i hi => ?_⟩
  injection ha with ha
  subst ha
  rw [add_plain, World.ownsRow.cellAt h i (by omega)]
  simp [u32V, hi]
theorem U32s.keeps {S : Nat → Prop} {w w' : World} {a : Addr} {n : Nat} {g : Nat → Nat} (h : U32s w (some a) n g) (hk : Keeps S w w') (hS : ¬ S a.block) : U32s w' (some a) n g := by
 refine ⟨fun h => (by cases h), fun b hb i hi => ?_⟩
 have hc := h.2 b hb i hi
 injection hb with hb
 subst hb
 exact (hk.cell (World.block_lt_of_cell? w _ hc) (by unfold Addr.add; split <;> exact hS)).trans hc
theorem DF.keeps {S : Nat → Prop} {w w' : World} {D Wb : Nat} {la da ca ea : Addr} {ln lc dn dc cc ec : Nat} {f g : Nat → Int} (h : DF w D Wb la da ca ea ln lc dn dc cc ec f g) (hk : Keeps S w w') (hD : ¬ S D) (h1 : ¬ S la.block) (h2 : ¬ S da.block) (h3 : ¬ S ca.block) (h4 : ¬ S ea.block) :
  DF w' D Wb la da ca ea ln lc dn dc cc ec f g := by
 have hc : ∀ i v, w.cell? ⟨D, i, none⟩ = some v → w'.cell? ⟨D, i, none⟩ = some v := fun i v q => (hk.cell (World.block_lt_of_cell? w _ q) hD).trans q
 exact ⟨hc _ _ h.c0, hc _ _ h.c1, hc _ _ h.c2, hc _ _ h.c3, hc _ _ h.c4, h.li.on hk (fun a ha => by injection ha with ha; subst ha; exact h1), h.di.on hk (fun a ha => by injection ha with ha; subst ha; exact h2), h.lw.keeps hk h3, h.dw.keeps hk h4⟩
/-- the memory when the fixed code's rows are laid -/
theorem FixAt.df {w4 wr : World} {B D Wb : Nat} {la : Addr} {lc cb : Nat} (h : FixAt w4 wr B D Wb la lc cb 32) (hB : w4.heap.size = B) (hl : Ints w4 (some la) 288 Inf.fixF) (hld : la.block < D) (hc : Cs w4 cb 288 .u32 (fun i => (word Inf.fixF 288 i : Int))) (hcd : D < cb) (hcb : cb < B) :
  ∃ (da : Addr) (dc : Nat) (ea : Addr) (ec : Nat), DF wr D Wb la da ⟨cb, 0, none⟩ ea 288 lc 32 dc 288 ec Inf.fixF Inf.fiveF ∧ B ≤ da.block ∧ da.block < wr.heap.size ∧ B ≤ ea.block ∧ ea.block < wr.heap.size := by
 obtain ⟨x2, c2, x4, c4, hX, hD, h2, h4⟩ := h
 obtain ⟨da, rfl⟩ : ∃ da, x2 = some ⟨da, 0, none⟩ := by
  rcases ownsRow_slice h2 with ⟨_, q⟩ | ⟨g, c, q⟩
  ·omega
  ·injection q with q; exact ⟨g, q⟩
 obtain ⟨ea, rfl⟩ : ∃ ea, x4 = some ⟨ea, 0, none⟩ := by
  rcases ownsRow_slice h4 with ⟨_, q⟩ | ⟨g, c, q⟩
  ·omega
  ·injection q with q; exact ⟨g, q⟩
 have b2 := World.ownsRow.lt h2 da rfl
 have b4 := World.ownsRow.lt h4 ea rfl
 have hdi : Ints wr (some ⟨da, 0, none⟩) 32 Inf.fiveF := by
  obtain ⟨y, c, e, q⟩ := Ints.of_own h2 (fun i _ => by unfold Inf.fiveF; omega)
  injection e with e
  subst e
  exact q
 have hdw := u32s_own h4
 refine ⟨_, c2, _, c4, ⟨hD.cell 0, hD.cell 1, hD.cell 2, hD.cell 3, hD.cell 4, hl.on hX (fun a ha q => ?_), hdi, ⟨fun h => (by cases h), fun a ha i hi => ?_⟩, ⟨fun h => (by cases h), fun a ha i hi => ?_⟩⟩, b2.1, b2.2, b4.1, b4.2⟩
 ·injection ha with ha
  have q : a.block = D := q
  rw [← ha] at q
  omega
 ·injection ha with ha
  subst ha
  rw [add_plain]
  have q := hc i hi
  exact (hX.cell (p := ⟨cb, i, none⟩) (World.block_lt_of_cell? w4 _ q.1) (show ¬ cb = D by omega)).trans q.1
 ·have := hdw.2 a ha i hi
  rw [this, Inf.word_five i hi]
/-- the memory amid a round: the cells of the writer, the rows that grow -/
structure FX (w4 wr z : World) (B D Wb : Nat) (la : Addr) (lc cb : Nat) (s2 s4 v2 : Value) (n2 : Nat) (l2 : List Value) (v4 : Value) (n4 : Nat) (l4 : List Value) : Prop where
 k : Keeps (fun k => k = D) w4 z
 d : Bk z D #[.pointer (some ⟨Wb, 0, none⟩), .slice (some la) 288 lc, s2, .slice (some ⟨cb, 0, none⟩) 288 288, s4]
 o2 : OwnR z B 3 v2 n2 l2
 o4 : OwnR z B 70 v4 n4 l4
 sz : wr.heap.size ≤ z.heap.size
 b : w4.heap.size = B
 db : D < B
section
variable {w4 wr z : World} {B D Wb : Nat} {la : Addr} {lc cb : Nat} {s2 s4 v2 v4 : Value} {n2 n4 : Nat} {l2 l4 : List Value}
theorem FX.ext {z' : World} (h : FX w4 wr z B D Wb la lc cb s2 s4 v2 n2 l2 v4 n4 l4) (hE : Ext z z') : FX w4 wr z' B D Wb la lc cb s2 s4 v2 n2 l2 v4 n4 l4 :=
 ⟨h.k.trans hE.keeps (S' := fun _ => False) (fun _ _ q => q.elim), h.d.ext hE, h.o2.ext hE, h.o4.ext hE, Nat.le_trans h.sz hE.size, h.b, h.db⟩
theorem FX.big (h : FX w4 wr z B D Wb la lc cb s2 s4 v2 n2 l2 v4 n4 l4) : B ≤ z.heap.size := by have := h.k.size; have := h.b; omega
theorem FX.run2 {x : Option Addr} {i c a : Nat} {val : Value} (h : FX w4 wr z B D Wb la lc cb s2 s4 (.slice x i c) i l2 v4 n4 l4) (hA : Bk z a #[val]) (h1 : val.oneCell' = true) (hi : i < 1000) :
  ∃ x' c' z', (Builtin.append_ #[31, 31] 31 #[.slice x i c, .slice (some ⟨a, 0, none⟩) 1 1]).run Tryd.prog z = .ok (.slice x' (i + 1) c') z' ∧
   FX w4 wr z' B D Wb la lc cb s2 s4 (.slice x' (i + 1) c') (i + 1) (l2 ++ [val]) v4 n4 l4 ∧ z.grownBy z' (Value.slice x i c).ownBlock := by
 obtain ⟨i0, hi0, hz0, hz1, hz2⟩ : ∃ i, Tryd.prog.info? 3 = some i ∧ i.zero = some (.int .i64 0) ∧ i.size = 1 ∧ i.bytes = 8 := ⟨_, rfl, rfl, rfl, rfl⟩
 obtain ⟨v', z', hr, q2, q3, _, _⟩ := run_append_own_at (P := Tryd.prog) z B 31 31 3 i0 (.int .i64 0) 1 8 Tryd.underlying31 hi0 hz0 hz1 hz2 rfl (by decide) (.slice x i c) i l2 h.o2 ⟨a, 0, none⟩ 1 1 [val] rfl (fun j u hj => by
  rw [add_plain]; exact (hA.cell _).trans (by simpa using hj)) (by intro u hu; simp at hu; subst hu; exact h1) (by unfold maxLen; omega) (by omega) h.big
 obtain ⟨x', c', rfl⟩ := own_lit (show OwnR z' B 3 v' (i + 1) (l2 ++ [val]) from q2)
 exact ⟨x', c', z', hr, ⟨h.k.trans (Keeps.grown q3) (fun k hk e => by have := (World.ownsRow.lt h.o2 k e).1; have := h.b; omega), h.d.grown h.o2 (.inl h.db) q3, q2, h.o4.grown h.o2 (by decide) q3, Nat.le_trans h.sz (Keeps.grown q3).size, h.b, h.db⟩, q3⟩
theorem FX.run4 {x : Option Addr} {i c a : Nat} {val : Value} (h : FX w4 wr z B D Wb la lc cb s2 s4 v2 n2 l2 (.slice x i c) i l4) (hA : Bk z a #[val]) (h1 : val.oneCell' = true) (hi : i < 1000) :
  ∃ x' c' z', (Builtin.append_ #[117, 117] 117 #[.slice x i c, .slice (some ⟨a, 0, none⟩) 1 1]).run Tryd.prog z = .ok (.slice x' (i + 1) c') z' ∧
   FX w4 wr z' B D Wb la lc cb s2 s4 v2 n2 l2 (.slice x' (i + 1) c') (i + 1) (l4 ++ [val]) ∧ z.grownBy z' (Value.slice x i c).ownBlock := by
 obtain ⟨i0, hi0, hz0, hz1, hz2⟩ : ∃ i, Tryd.prog.info? 70 = some i ∧ i.zero = some (.int .u32 0) ∧ i.size = 1 ∧ i.bytes = 4 := ⟨_, rfl, rfl, rfl, rfl⟩
 obtain ⟨v', z', hr, q2, q3, _, _⟩ := run_append_own_at (P := Tryd.prog) z B 117 117 70 i0 (.int .u32 0) 1 4 Tryd.underlying117 hi0 hz0 hz1 hz2 rfl (by decide) (.slice x i c) i l4 h.o4 ⟨a, 0, none⟩ 1 1 [val] rfl (fun j u hj => by
  rw [add_plain]; exact (hA.cell _).trans (by simpa using hj)) (by intro u hu; simp at hu; subst hu; exact h1) (by unfold maxLen; omega) (by omega) h.big
 obtain ⟨x', c', rfl⟩ := own_lit (show OwnR z' B 70 v' (i + 1) (l4 ++ [val]) from q2)
 exact ⟨x', c', z', hr, ⟨h.k.trans (Keeps.grown q3) (fun k hk e => by have := (World.ownsRow.lt h.o4 k e).1; have := h.b; omega), h.d.grown h.o4 (.inl h.db) q3, h.o2.grown h.o4 (by decide) q3, q2, Nat.le_trans h.sz (Keeps.grown q3).size, h.b, h.db⟩, q3⟩
theorem FX.st2 (h : FX w4 wr z B D Wb la lc cb s2 s4 v2 n2 l2 v4 n4 l4) (u : Value) : FX w4 wr (z.setCell ⟨D, 2, none⟩ u) B D Wb la lc cb u s4 v2 n2 l2 v4 n4 l4 := by
 refine ⟨Keeps.setCell h.k (p := ⟨D, 2, none⟩) (.inl rfl) _, by simpa using h.d.set_ 2 u, ownsRow_setCell_other h.o2 (fun e => by have := (World.ownsRow.lt h.o2 D e).1; have := h.db; omega) _, ownsRow_setCell_other h.o4 (fun e => by have := (World.ownsRow.lt h.o4 D e).1; have := h.db; omega) _, by have := h.sz; simpa using this, h.b, h.db⟩
theorem FX.st4 (h : FX w4 wr z B D Wb la lc cb s2 s4 v2 n2 l2 v4 n4 l4) (u : Value) : FX w4 wr (z.setCell ⟨D, 4, none⟩ u) B D Wb la lc cb s2 u v2 n2 l2 v4 n4 l4 := by
 refine ⟨Keeps.setCell h.k (p := ⟨D, 4, none⟩) (.inl rfl) _, by simpa using h.d.set_ 4 u, ownsRow_setCell_other h.o2 (fun e => by have := (World.ownsRow.lt h.o2 D e).1; have := h.db; omega) _, ownsRow_setCell_other h.o4 (fun e => by have := (World.ownsRow.lt h.o4 D e).1; have := h.db; omega) _, by have := h.sz; simpa using this, h.b, h.db⟩
end
theorem hcs_lt {w : World} {B n : Nat} {k : IntKind} {g : Nat → Int} (h : Cs w B n k g) (hn : 0 < n) : B < w.heap.size := World.block_lt_of_cell? w _ (h 0 hn).1
theorem FixAt.start {w4 : World} {B D Wb : Nat} {la : Addr} {lc cb : Nat} (h : Bk w4 D #[.pointer (some ⟨Wb, 0, none⟩), .slice (some la) 288 lc, .slice none 0 0, .slice (some ⟨cb, 0, none⟩) 288 288, .slice none 0 0]) : FixAt w4 w4 B D Wb la lc cb 0 :=
 ⟨none, 0, none, 0, Keeps.refl _ _, h, ⟨rfl, .inl ⟨rfl, rfl⟩⟩, ⟨rfl, .inl ⟨rfl, rfl⟩⟩⟩
theorem wb_start {w : World} {Wb : Nat} (h : Bk w Wb #[.slice none 0 0, .int .i64 0]) : WB w Wb (.slice none 0 0) [] :=
 ⟨h.cell 0, h.cell 1, h.frozen 0, h.frozen 1, ⟨[], rfl, rfl, ⟨rfl, .inl ⟨rfl, rfl⟩⟩⟩, by simp [Value.ownBlock], by decide⟩
set_option maxHeartbeats 8000000 in
theorem dfixed_any (x : Option Addr) (n cap : Nat) (tk : Nat → Tk) (w : World) (hT : Toks w x n tk) (hTb : Tabs w) (EB ES : Value) (hB : w.cell? ⟨0, 0, none⟩ = some EB) (hS : w.cell? ⟨3, 0, none⟩ = some ES) (hn : n ≤ 310000)
  (hok : ∀ i, i < n → (tk i).l = 0 ∨ (3 ≤ (tk i).l ∧ (tk i).l ≤ 258 ∧ 1 ≤ (tk i).d ∧ (tk i).d ≤ 32768)) :
  Calls Tryd.prog 55 #[.slice x n cap] w fun e w' => (∃ l : List UInt8, l.length = ((Bts.low 3 3 ++ (Dfl.toksB Inf.fixF 288 Inf.fiveF 32 ((List.range n).map tk) ++ Dfl.wordB Inf.fixF 288 256)).length + 7) / 8 ∧ Crc.num l = Bts.val (Bts.low 3 3 ++ (Dfl.toksB Inf.fixF 288 Inf.fiveF 32 ((List.range n).map tk) ++ Dfl.wordB Inf.fixF 288 256)) ∧ e = .returned (.string ⟨l.toArray⟩)) ∧ Ext w w' := by
 have HT := Lib.hid hT
 have HTb := Lib.hid hTb
 have HB := Lib.hid hB
 have HS := Lib.hid hS
 have HOK := Lib.hid hok
 clear hT hTb hB hS hok
 go_enter Tryd.func55, Tryd.ntmps55
 go_wp2_with fail
 refine calls_world (fun wz => Ext w wz ∧ Bk wz w.heap.size #[.slice none 0 0, .int .i64 0]) ⟨(Ext.refl _).alloc _, Bk.at rfl⟩ ?_
 rintro w1 ⟨hX, hW⟩
 obtain ⟨Wb, hWb⟩ : ∃ Wb, w.heap.size = Wb := ⟨_, rfl⟩
 rw [hWb] at hW
 rw [hWb]
 have HWb := Lib.hid hWb
 have HX1 := Lib.hid hX
 have HW1 := Lib.hid hW
 clear hX hW hWb
 refine (fixed_any w1).mono ?_
 rintro e w2 ⟨⟨lx, lc, rfl, hl, hown⟩, hX⟩
 obtain ⟨la, rfl, hla⟩ : ∃ la : Addr, lx = some la ∧ Wb < la.block := by
  rcases ownsRow_slice hown with ⟨_, q⟩ | ⟨g, c, q⟩
  ·omega
  ·injection q with q
   subst q
   have := (World.ownsRow.lt hown g rfl).1
   have := HW1.out.lt
   exact ⟨⟨g, 0, none⟩, rfl, by show Wb < g; omega⟩
 have HLW := Lib.hid hla
 clear hla hown
 have HL2 := Lib.hid hl
 have HX2 := Lib.hid (HX1.out.trans hX)
 have HW2 := Lib.hid (HW1.out.ext hX)
 clear HX1 HW1 hX hl
 go_wp2_with fail
 refine calls_world (fun wz => Ext w2 wz ∧ Bk wz w2.heap.size #[.pointer (some ⟨Wb, 0, none⟩), .slice (some la) 288 lc, .slice none 0 0, .slice none 0 0, .slice none 0 0]) ⟨(Ext.refl _).alloc _, Bk.at rfl⟩ ?_
 rintro w3 ⟨hX, hD⟩
 obtain ⟨D, hD'⟩ : ∃ D, w2.heap.size = D := ⟨_, rfl⟩
 rw [hD'] at hD
 have HDs := Lib.hid hD'
 rw [hD']
 have HD3 := Lib.hid hD
 have HX3 := Lib.hid (HX2.out.trans hX)
 have HW3 := Lib.hid (HW2.out.ext hX)
 have HL3 := Lib.hid (HL2.out.ext hX)
 have HWD := Lib.hid (show Wb < D by have := HW2.out.lt; have := HDs.out; omega)
 have HLD := Lib.hid (show la.block < D by have := HL2.out.block (by decide); have := HDs.out; omega)
 clear HX2 HW2 HL2 hX hD hD'
 refine (codes_good (some la) 288 lc Inf.fixF w3 HL3.out (by decide) Inf.good_fix.1 Inf.good_fix.2 EB ES ((HX3.out.cell (World.block_lt_of_cell? w _ HB.out)).trans HB.out) ((HX3.out.cell (World.block_lt_of_cell? w _ HS.out)).trans HS.out)).mono ?_
 rintro e w4' ⟨hX, cb, hcb, rfl, hC⟩
 have HC := Lib.hid hC
 have HX4 := Lib.hid (HX3.out.trans hX)
 have HW4 := Lib.hid (HW3.out.ext hX)
 have HD4 := Lib.hid (HD3.out.ext hX)
 have HL4 := Lib.hid (HL3.out.ext hX)
 have HCD := Lib.hid (show D < cb by have := HD3.out.lt; omega)
 clear HX3 HW3 HL3 HD3 hX hC hcb
 have k0 := HD4.out.cell 3
 have f0 := HD4.out.frozen 3
 simp only [List.getElem?_toArray, List.getElem?_cons_succ, List.getElem?_cons_zero] at k0
 go_wp2_with fail
 refine wp_world (fun wz => Ext w wz ∧ Ints wz (some la) 288 Inf.fixF ∧ Bk wz Wb #[.slice none 0 0, .int .i64 0] ∧ Cs wz cb 288 .u32 (fun i => (word Inf.fixF 288 i : Int)) ∧ Bk wz D #[.pointer (some ⟨Wb, 0, none⟩), .slice (some la) 288 lc, .slice none 0 0, .slice (some ⟨cb, 0, none⟩) 288 288, .slice none 0 0]) ?_ ?_
 ·refine ⟨Below.setCell HX4.out (by have := HWb.out; have := HWD.out; show w.heap.size ≤ D; omega) _, HL4.out.on (Keeps.setCell (S := fun k => k = D) (p := ⟨D, 3, none⟩) (Keeps.refl _ _) (.inl rfl) _) (fun a ha q => by have := HLD.out; injection ha with ha; have q : a.block = D := q; rw [← ha] at q; omega), HW4.out.far (p := ⟨D, 3, none⟩) (by have := HWD.out; show Wb ≠ D; omega) _, HC.out.other _ _ (by have := HCD.out; show D ≠ cb; omega), ?_⟩
  have := HD4.out.set_ 3 (.slice (some ⟨cb, 0, none⟩) 288 288)
  simpa using this
 rintro w4 ⟨h1, h2, h3, h4, h5⟩
 clear HX4 HL4 HW4 HC HD4
 have HX4 := Lib.hid h1
 have HL4 := Lib.hid h2
 have HW4 := Lib.hid h3
 have HC4 := Lib.hid h4
 have HD4 := Lib.hid h5
 clear h1 h2 h3 h4 h5 k0 f0
 obtain ⟨B, hB⟩ : ∃ B, w4.heap.size = B := ⟨_, rfl⟩
 have HBe := Lib.hid hB
 have HDB := Lib.hid (show D < B by have := HD4.out.lt; omega)
 clear hB
 obtain ⟨i0, hi0, hz0, hz1, hz2⟩ : ∃ i, Tryd.prog.info? 3 = some i ∧ i.zero = some (.int .i64 0) ∧ i.size = 1 ∧ i.bytes = 8 := ⟨_, rfl, rfl, rfl, rfl⟩
 obtain ⟨j0, hj0, hy0, hy1, hy2⟩ : ∃ i, Tryd.prog.info? 70 = some i ∧ i.zero = some (.int .u32 0) ∧ i.size = 1 ∧ i.bytes = 4 := ⟨_, rfl, rfl, rfl, rfl⟩
 go_loopw [21] (fun c wr => ∃ i : Nat, c = .int .u32 i ∧ i ≤ 32 ∧ Hid (FixAt w4 wr B D Wb la lc cb i)) (fun c _ => 32 - (intOf c).toNat)
 case atStart => exact ⟨0, rfl, by omega, Lib.hid (FixAt.start HD4.out)⟩
 case round =>
  obtain ⟨i, rfl, hi, HF⟩ := hrel
  by_cases hlt : i < 32
  ·have t0 : decide ((i : Int) < 32) = true := decide_eq_true (by omega)
   have wu : IntKind.u32.wrap ((i : Int) + 1) = ((i + 1 : Nat) : Int) := by rw [IntKind.wrap_u32]; omega
   obtain ⟨x2, c2, x4, c4, hX, hD, h2, h4⟩ := HF.out
   have Z_0 := Lib.hid (⟨hX, hD, h2, h4, Nat.le_refl _, HBe.out, HDB.out⟩ : FX w4 wr wr B D Wb la lc cb _ _ _ _ _ _ _ _)
   have HO2L := Lib.hid (show ∀ k, (Value.slice x2 i c2).ownBlock = some k → k < wr.heap.size from fun k e => (World.ownsRow.lt h2 k e).2)
   have HO4L := Lib.hid (show ∀ k, (Value.slice x4 i c4).ownBlock = some k → k < wr.heap.size from fun k e => (World.ownsRow.lt h4 k e).2)
   clear hX hD h2 h4 HF
   go_wp2_with fail
   refine wp_region_held_drew (S := fun w' => True) (by kernel_rfl) trivial (fun hHeld => ?_)
   clear hHeld
   refine anyH_world (fun wz => Ext wr wz) (show Ext wr wr.drew from Below.drew (Ext.refl wr)) ?_
   rintro v1 h
   have Z_1 := Lib.hid (Z_0.out.ext h)
   clear h Z_0
   have hHeld : True := trivial
   refine wpAnyH_take (i := 0) (v := ?_) rfl (by kernel_rfl) (by kernel_rfl) (by kernel_rfl) (fun _ _ _ h => h) (Or.inl ⟨by kernel_rfl, ?_⟩) hHeld ?_
   rotate_left
   ·intro w hSw
    (try dsimp only at hSw)
    go_split_ands
    go_simp
    (try with_reducible rfl)
   try simp only [Act.put, xa, xb, xc, xd, xe, xf]
   refine wpAnyH_take (i := 1) (v := ?_) rfl (by kernel_rfl) (by kernel_rfl) (by kernel_rfl) (fun _ _ _ h => h) (Or.inl ⟨by kernel_rfl, ?_⟩) hHeld ?_
   rotate_left
   ·intro w hSw
    (try dsimp only at hSw)
    go_split_ands
    go_simp
    (try with_reducible rfl)
   try simp only [Act.put, xa, xb, xc, xd, xe, xf]
   refine wpAnyH_take (i := 2) (v := ?_) rfl (by kernel_rfl) (by kernel_rfl) (by kernel_rfl) (fun _ _ _ h => h) (Or.inl ⟨by kernel_rfl, ?_⟩) hHeld ?_
   rotate_left
   ·intro w hSw
    (try dsimp only at hSw)
    go_split_ands
    go_simp
    (try with_reducible rfl)
   try simp only [Act.put, xa, xb, xc, xd, xe, xf]
   refine wpAnyH_take (i := 3) (v := ?_) rfl (by kernel_rfl) (by kernel_rfl) (by kernel_rfl) (fun _ _ _ h => h) (Or.inl ⟨by kernel_rfl, ?_⟩) hHeld ?_
   rotate_left
   ·intro w hSw
    (try dsimp only at hSw)
    go_split_ands
    go_simp
    (try with_reducible rfl)
   try simp only [Act.put, xa, xb, xc, xd, xe, xf]
   refine wpAnyH_take (i := 4) (v := ?_) rfl (by kernel_rfl) (by kernel_rfl) (by kernel_rfl) (fun _ _ _ h => h) (Or.inl ⟨by kernel_rfl, ?_⟩) hHeld ?_
   rotate_left
   ·intro w hSw
    (try dsimp only at hSw)
    go_split_ands
    go_simp
    (try with_reducible rfl)
   try simp only [Act.put, xa, xb, xc, xd, xe, xf]
   refine wpAnyH_take (i := 8) (v := ?_) rfl (by kernel_rfl) (by kernel_rfl) (by kernel_rfl) (fun _ _ _ h => h) (Or.inl ⟨by kernel_rfl, ?_⟩) hHeld ?_
   rotate_left
   ·intro w hSw
    (try dsimp only at hSw)
    go_split_ands
    go_simp
    (try with_reducible rfl)
   try simp only [Act.put, xa, xb, xc, xd, xe, xf]
   refine wpAnyH_take (i := 9) (v := ?_) rfl (by kernel_rfl) (by kernel_rfl) (by kernel_rfl) (fun _ _ _ h => h) (Or.inl ⟨by kernel_rfl, ?_⟩) hHeld ?_
   rotate_left
   ·intro w hSw
    (try dsimp only at hSw)
    go_split_ands
    go_simp
    (try with_reducible rfl)
   try simp only [Act.put, xa, xb, xc, xd, xe, xf]
   refine wpAnyH_take (i := 10) (v := ?_) rfl (by kernel_rfl) (by kernel_rfl) (by kernel_rfl) (fun _ _ _ h => h) (Or.inl ⟨by kernel_rfl, ?_⟩) hHeld ?_
   rotate_left
   ·intro w hSw
    (try dsimp only at hSw)
    go_split_ands
    go_simp
    (try with_reducible rfl)
   try simp only [Act.put, xa, xb, xc, xd, xe, xf]
   refine wpAnyH_take (i := 12) (v := ?_) rfl (by kernel_rfl) (by kernel_rfl) (by kernel_rfl) (fun _ _ _ h => h) (Or.inl ⟨by kernel_rfl, ?_⟩) hHeld ?_
   rotate_left
   ·intro w hSw
    (try dsimp only at hSw)
    go_split_ands
    go_simp
    (try with_reducible rfl)
   try simp only [Act.put, xa, xb, xc, xd, xe, xf]
   refine wpAnyH_ready (rs := [5, 6, 11, 13]) (by kernel_rfl) (by simp) ?_
   refine AllReadyH.cons rfl (fun KK hK => ?_) (AllReadyH.cons rfl (fun KK hK => ?_) (AllReadyH.cons rfl (fun KK hK => ?_) (AllReadyH.cons rfl (fun KK hK => ?_) AllReadyH.nil)))
   ·clear hHeld
    have k0 := Z_1.out.d.cell 2
    simp only [xg, xh, xi] at k0
    go_simp
    refine hK.out _ _ trivial (fun hHeld => ?_)
    clear hK KK k0
    try simp only [Act.put, xa, xb, xc, xd, xe, xf]
    refine wpAnyH_ready (rs := [6, 11, 13]) (by kernel_rfl) (by simp) ?_
    refine AllReadyH.cons rfl (fun KK hK => ?_) (AllReadyH.cons rfl (fun KK hK => ?_) (AllReadyH.cons rfl (fun KK hK => ?_) AllReadyH.nil))
    ·clear hHeld
     go_simp
     refine hK.out _ _ trivial (fun hHeld => ?_)
     clear hK KK hHeld
     try simp only [Act.put, xa, xb, xc, xd, xe, xf]
     refine anyH_world (fun wz => Ext v1 wz ∧ Bk wz v1.heap.size #[.int .i64 5]) ⟨(Ext.refl v1).alloc _, Bk.at rfl⟩ ?_
     rintro v2 ⟨hE, hB⟩
     obtain ⟨Ab, hb⟩ : ∃ q, v1.heap.size = q := ⟨_, rfl⟩
     rw [hb] at hB
     try rw [hb]
     have LA := Lib.hid (show wr.heap.size ≤ Ab from hb ▸ Z_1.out.sz)
     have Z_2 := Lib.hid (Z_1.out.ext hE)
     clear hE hb Z_1
     have A_2 := Lib.hid (hB)
     clear hB
     have hHeld : True := trivial
     refine wpAnyH_ready (rs := [7, 11, 13]) (by kernel_rfl) (by simp) ?_
     refine AllReadyH.cons rfl (fun KK hK => ?_) (AllReadyH.cons rfl (fun KK hK => ?_) (AllReadyH.cons rfl (fun KK hK => ?_) AllReadyH.nil))
     ·clear hHeld
      obtain ⟨y2, d2, v3, hr, hz, h3⟩ := Z_2.out.run2 A_2.out rfl (by omega)
      rw [if_pos (show _ = true by kernel_rfl)]
      unfold Oper.wp execOp
      simp only [resolve, invoke, builtin, Sem.run_bind, Sem.run_pure, Result.andThen_ok, List.map_toArray, List.map_cons, List.map_nil, Act.eval, xa, xb, xc]
      simp only [Array.getD_eq_getD_getElem?, xg, xh, xi, Option.getD_some, hr, Result.andThen_ok, Oper.upon]
      refine hK.out _ _ trivial (fun hHeld => ?_)
      clear hK KK hr
      try simp only [Act.put, xa, xb, xc, xd, xe, xf]
      have Z_3 := Lib.hid hz
      clear Z_2 A_2 hz h3
      have hHeld : True := trivial
      refine wpAnyH_ready (rs := [11, 13]) (by kernel_rfl) (by simp) ?_
      refine AllReadyH.cons rfl (fun KK hK => ?_) (AllReadyH.cons rfl (fun KK hK => ?_) AllReadyH.nil)
      ·clear hHeld
       have k0 := Z_3.out.d.cell 4
       simp only [xg, xh, xi] at k0
       go_simp
       refine hK.out _ _ trivial (fun hHeld => ?_)
       clear hK KK k0
       try simp only [Act.put, xa, xb, xc, xd, xe, xf]
       refine wpAnyH_ready (rs := [13]) (by kernel_rfl) (by simp) ?_
       refine AllReadyH.cons rfl (fun KK hK => ?_) AllReadyH.nil
       clear hHeld
       go_simp
       refine hK.out _ _ trivial (fun hHeld => ?_)
       clear hK KK hHeld
       try simp only [Act.put, xa, xb, xc, xd, xe, xf]
       refine anyH_world (fun wz => Ext v3 wz ∧ Bk wz v3.heap.size #[.int .u32 (i : Int)]) ⟨(Ext.refl v3).alloc _, Bk.at rfl⟩ ?_
       rintro v4 ⟨hE, hB⟩
       obtain ⟨Cb, hb⟩ : ∃ q, v3.heap.size = q := ⟨_, rfl⟩
       rw [hb] at hB
       try rw [hb]
       have LC := Lib.hid (show wr.heap.size ≤ Cb from hb ▸ Z_3.out.sz)
       have Z_4 := Lib.hid (Z_3.out.ext hE)
       clear hE hb Z_3
       have C_4 := Lib.hid (hB)
       clear hB
       have hHeld : True := trivial
       refine wpAnyH_ready (rs := [14]) (by kernel_rfl) (by simp) ?_
       refine AllReadyH.cons rfl (fun KK hK => ?_) AllReadyH.nil
       clear hHeld
       obtain ⟨y4, d4, v5, hr, hz, h3⟩ := Z_4.out.run4 C_4.out rfl (by omega)
       rw [if_pos (show _ = true by kernel_rfl)]
       unfold Oper.wp execOp
       simp only [resolve, invoke, builtin, Sem.run_bind, Sem.run_pure, Result.andThen_ok, List.map_toArray, List.map_cons, List.map_nil, Act.eval, xa, xb, xc]
       simp only [Array.getD_eq_getD_getElem?, xg, xh, xi, Option.getD_some, hr, Result.andThen_ok, Oper.upon]
       refine hK.out _ _ trivial (fun hHeld => ?_)
       clear hK KK hr
       try simp only [Act.put, xa, xb, xc, xd, xe, xf]
       have Z_5 := Lib.hid hz
       clear Z_4 C_4 hz h3
       have hHeld : True := trivial
       refine wpAnyH_take (i := 15) (v := ?_) rfl (by kernel_rfl) (by kernel_rfl) (by kernel_rfl) (fun _ _ _ h => h) (Or.inl ⟨by kernel_rfl, ?_⟩) hHeld ?_
       rotate_left
       ·intro w hSw
        (try dsimp only at hSw)
        go_split_ands
        go_simp
        (try with_reducible rfl)
       try simp only [Act.put, xa, xb, xc, xd, xe, xf]
       refine wpAnyH_take (i := 16) (v := ?_) rfl (by kernel_rfl) (by kernel_rfl) (by kernel_rfl) (fun _ _ _ h => h) (Or.inl ⟨by kernel_rfl, ?_⟩) hHeld ?_
       rotate_left
       ·intro w hSw
        (try dsimp only at hSw)
        go_split_ands
        go_simp
        (try with_reducible rfl)
       try simp only [Act.put, xa, xb, xc, xd, xe, xf]
       refine wpAnyH_ready (rs := [17]) (by kernel_rfl) (by simp) ?_
       refine AllReadyH.cons rfl (fun KK hK => ?_) AllReadyH.nil
       clear hHeld
       have k0 := Z_5.out.d.cell 2
       have f0 := Z_5.out.d.frozen 2
       simp only [xg, xh, xi] at k0
       go_simp
       refine hK.out _ _ trivial (fun hHeld => ?_)
       clear hK KK k0 f0 hHeld
       try simp only [Act.put, xa, xb, xc, xd, xe, xf]
       refine anyH_world (fun wz => FX w4 wr wz B D Wb la lc cb _ _ _ _ _ _ _ _) (Z_5.out.st2 (.slice y2 (i + 1) d2)) ?_
       rintro v6 hz
       have Z_6 := Lib.hid hz
       clear hz Z_5
       have hHeld : True := trivial
       refine wpAnyH_take (i := 18) (v := ?_) rfl (by kernel_rfl) (by kernel_rfl) (by kernel_rfl) (fun _ _ _ h => h) (Or.inl ⟨by kernel_rfl, ?_⟩) hHeld ?_
       rotate_left
       ·intro w hSw
        (try dsimp only at hSw)
        go_split_ands
        go_simp
        (try with_reducible rfl)
       try simp only [Act.put, xa, xb, xc, xd, xe, xf]
       refine wpAnyH_take (i := 19) (v := ?_) rfl (by kernel_rfl) (by kernel_rfl) (by kernel_rfl) (fun _ _ _ h => h) (Or.inl ⟨by kernel_rfl, ?_⟩) hHeld ?_
       rotate_left
       ·intro w hSw
        (try dsimp only at hSw)
        go_split_ands
        go_simp
        (try with_reducible rfl)
       try simp only [Act.put, xa, xb, xc, xd, xe, xf]
       refine wpAnyH_ready (rs := [20]) (by kernel_rfl) (by simp) ?_
       refine AllReadyH.cons rfl (fun KK hK => ?_) AllReadyH.nil
       clear hHeld
       have k0 := Z_6.out.d.cell 4
       have f0 := Z_6.out.d.frozen 4
       simp only [xg, xh, xi] at k0
       go_simp
       refine hK.out _ _ trivial (fun hHeld => ?_)
       clear hK KK k0 f0 hHeld
       try simp only [Act.put, xa, xb, xc, xd, xe, xf]
       refine anyH_world (fun wz => FX w4 wr wz B D Wb la lc cb _ _ _ _ _ _ _ _) (Z_6.out.st4 (.slice y4 (i + 1) d4)) ?_
       rintro v7 hz
       have Z_7 := Lib.hid hz
       clear hz Z_6
       have hHeld : True := trivial
       refine wpAnyH_done (by kernel_rfl) ?_ _
       clear hHeld
       go_wp2_with fail
       refine ⟨⟨i + 1, rfl, by omega, Lib.hid (fix_end Z_7.out.k Z_7.out.d Z_7.out.o2 Z_7.out.o4)⟩, by simp [intOf]; omega⟩
      ·clear hHeld
       go_simp
       refine hK.out _ _ trivial (fun hHeld => ?_)
       clear hK KK hHeld
       try simp only [Act.put, xa, xb, xc, xd, xe, xf]
       refine anyH_world (fun wz => Ext v3 wz ∧ Bk wz v3.heap.size #[.int .u32 (i : Int)]) ⟨(Ext.refl v3).alloc _, Bk.at rfl⟩ ?_
       rintro v4 ⟨hE, hB⟩
       obtain ⟨Cb, hb⟩ : ∃ q, v3.heap.size = q := ⟨_, rfl⟩
       rw [hb] at hB
       try rw [hb]
       have LC := Lib.hid (show wr.heap.size ≤ Cb from hb ▸ Z_3.out.sz)
       have Z_4 := Lib.hid (Z_3.out.ext hE)
       clear hE hb Z_3
       have C_4 := Lib.hid (hB)
       clear hB
       have hHeld : True := trivial
       refine wpAnyH_ready (rs := [11]) (by kernel_rfl) (by simp) ?_
       refine AllReadyH.cons rfl (fun KK hK => ?_) AllReadyH.nil
       clear hHeld
       have k0 := Z_4.out.d.cell 4
       simp only [xg, xh, xi] at k0
       go_simp
       refine hK.out _ _ trivial (fun hHeld => ?_)
       clear hK KK k0
       try simp only [Act.put, xa, xb, xc, xd, xe, xf]
       refine wpAnyH_ready (rs := [14]) (by kernel_rfl) (by simp) ?_
       refine AllReadyH.cons rfl (fun KK hK => ?_) AllReadyH.nil
       clear hHeld
       obtain ⟨y4, d4, v5, hr, hz, h3⟩ := Z_4.out.run4 C_4.out rfl (by omega)
       rw [if_pos (show _ = true by kernel_rfl)]
       unfold Oper.wp execOp
       simp only [resolve, invoke, builtin, Sem.run_bind, Sem.run_pure, Result.andThen_ok, List.map_toArray, List.map_cons, List.map_nil, Act.eval, xa, xb, xc]
       simp only [Array.getD_eq_getD_getElem?, xg, xh, xi, Option.getD_some, hr, Result.andThen_ok, Oper.upon]
       refine hK.out _ _ trivial (fun hHeld => ?_)
       clear hK KK hr
       try simp only [Act.put, xa, xb, xc, xd, xe, xf]
       have Z_5 := Lib.hid hz
       clear Z_4 C_4 hz h3
       have hHeld : True := trivial
       refine wpAnyH_take (i := 15) (v := ?_) rfl (by kernel_rfl) (by kernel_rfl) (by kernel_rfl) (fun _ _ _ h => h) (Or.inl ⟨by kernel_rfl, ?_⟩) hHeld ?_
       rotate_left
       ·intro w hSw
        (try dsimp only at hSw)
        go_split_ands
        go_simp
        (try with_reducible rfl)
       try simp only [Act.put, xa, xb, xc, xd, xe, xf]
       refine wpAnyH_take (i := 16) (v := ?_) rfl (by kernel_rfl) (by kernel_rfl) (by kernel_rfl) (fun _ _ _ h => h) (Or.inl ⟨by kernel_rfl, ?_⟩) hHeld ?_
       rotate_left
       ·intro w hSw
        (try dsimp only at hSw)
        go_split_ands
        go_simp
        (try with_reducible rfl)
       try simp only [Act.put, xa, xb, xc, xd, xe, xf]
       refine wpAnyH_ready (rs := [17]) (by kernel_rfl) (by simp) ?_
       refine AllReadyH.cons rfl (fun KK hK => ?_) AllReadyH.nil
       clear hHeld
       have k0 := Z_5.out.d.cell 2
       have f0 := Z_5.out.d.frozen 2
       simp only [xg, xh, xi] at k0
       go_simp
       refine hK.out _ _ trivial (fun hHeld => ?_)
       clear hK KK k0 f0 hHeld
       try simp only [Act.put, xa, xb, xc, xd, xe, xf]
       refine anyH_world (fun wz => FX w4 wr wz B D Wb la lc cb _ _ _ _ _ _ _ _) (Z_5.out.st2 (.slice y2 (i + 1) d2)) ?_
       rintro v6 hz
       have Z_6 := Lib.hid hz
       clear hz Z_5
       have hHeld : True := trivial
       refine wpAnyH_take (i := 18) (v := ?_) rfl (by kernel_rfl) (by kernel_rfl) (by kernel_rfl) (fun _ _ _ h => h) (Or.inl ⟨by kernel_rfl, ?_⟩) hHeld ?_
       rotate_left
       ·intro w hSw
        (try dsimp only at hSw)
        go_split_ands
        go_simp
        (try with_reducible rfl)
       try simp only [Act.put, xa, xb, xc, xd, xe, xf]
       refine wpAnyH_take (i := 19) (v := ?_) rfl (by kernel_rfl) (by kernel_rfl) (by kernel_rfl) (fun _ _ _ h => h) (Or.inl ⟨by kernel_rfl, ?_⟩) hHeld ?_
       rotate_left
       ·intro w hSw
        (try dsimp only at hSw)
        go_split_ands
        go_simp
        (try with_reducible rfl)
       try simp only [Act.put, xa, xb, xc, xd, xe, xf]
       refine wpAnyH_ready (rs := [20]) (by kernel_rfl) (by simp) ?_
       refine AllReadyH.cons rfl (fun KK hK => ?_) AllReadyH.nil
       clear hHeld
       have k0 := Z_6.out.d.cell 4
       have f0 := Z_6.out.d.frozen 4
       simp only [xg, xh, xi] at k0
       go_simp
       refine hK.out _ _ trivial (fun hHeld => ?_)
       clear hK KK k0 f0 hHeld
       try simp only [Act.put, xa, xb, xc, xd, xe, xf]
       refine anyH_world (fun wz => FX w4 wr wz B D Wb la lc cb _ _ _ _ _ _ _ _) (Z_6.out.st4 (.slice y4 (i + 1) d4)) ?_
       rintro v7 hz
       have Z_7 := Lib.hid hz
       clear hz Z_6
       have hHeld : True := trivial
       refine wpAnyH_done (by kernel_rfl) ?_ _
       clear hHeld
       go_wp2_with fail
       refine ⟨⟨i + 1, rfl, by omega, Lib.hid (fix_end Z_7.out.k Z_7.out.d Z_7.out.o2 Z_7.out.o4)⟩, by simp [intOf]; omega⟩
     ·clear hHeld
      have k0 := Z_2.out.d.cell 4
      simp only [xg, xh, xi] at k0
      go_simp
      refine hK.out _ _ trivial (fun hHeld => ?_)
      clear hK KK k0
      try simp only [Act.put, xa, xb, xc, xd, xe, xf]
      refine wpAnyH_ready (rs := [7, 13]) (by kernel_rfl) (by simp) ?_
      refine AllReadyH.cons rfl (fun KK hK => ?_) (AllReadyH.cons rfl (fun KK hK => ?_) AllReadyH.nil)
      ·clear hHeld
       obtain ⟨y2, d2, v3, hr, hz, h3⟩ := Z_2.out.run2 A_2.out rfl (by omega)
       rw [if_pos (show _ = true by kernel_rfl)]
       unfold Oper.wp execOp
       simp only [resolve, invoke, builtin, Sem.run_bind, Sem.run_pure, Result.andThen_ok, List.map_toArray, List.map_cons, List.map_nil, Act.eval, xa, xb, xc]
       simp only [Array.getD_eq_getD_getElem?, xg, xh, xi, Option.getD_some, hr, Result.andThen_ok, Oper.upon]
       refine hK.out _ _ trivial (fun hHeld => ?_)
       clear hK KK hr
       try simp only [Act.put, xa, xb, xc, xd, xe, xf]
       have Z_3 := Lib.hid hz
       clear Z_2 A_2 hz h3
       have hHeld : True := trivial
       refine wpAnyH_ready (rs := [13]) (by kernel_rfl) (by simp) ?_
       refine AllReadyH.cons rfl (fun KK hK => ?_) AllReadyH.nil
       clear hHeld
       go_simp
       refine hK.out _ _ trivial (fun hHeld => ?_)
       clear hK KK hHeld
       try simp only [Act.put, xa, xb, xc, xd, xe, xf]
       refine anyH_world (fun wz => Ext v3 wz ∧ Bk wz v3.heap.size #[.int .u32 (i : Int)]) ⟨(Ext.refl v3).alloc _, Bk.at rfl⟩ ?_
       rintro v4 ⟨hE, hB⟩
       obtain ⟨Cb, hb⟩ : ∃ q, v3.heap.size = q := ⟨_, rfl⟩
       rw [hb] at hB
       try rw [hb]
       have LC := Lib.hid (show wr.heap.size ≤ Cb from hb ▸ Z_3.out.sz)
       have Z_4 := Lib.hid (Z_3.out.ext hE)
       clear hE hb Z_3
       have C_4 := Lib.hid (hB)
       clear hB
       have hHeld : True := trivial
       refine wpAnyH_ready (rs := [14]) (by kernel_rfl) (by simp) ?_
       refine AllReadyH.cons rfl (fun KK hK => ?_) AllReadyH.nil
       clear hHeld
       obtain ⟨y4, d4, v5, hr, hz, h3⟩ := Z_4.out.run4 C_4.out rfl (by omega)
       rw [if_pos (show _ = true by kernel_rfl)]
       unfold Oper.wp execOp
       simp only [resolve, invoke, builtin, Sem.run_bind, Sem.run_pure, Result.andThen_ok, List.map_toArray, List.map_cons, List.map_nil, Act.eval, xa, xb, xc]
       simp only [Array.getD_eq_getD_getElem?, xg, xh, xi, Option.getD_some, hr, Result.andThen_ok, Oper.upon]
       refine hK.out _ _ trivial (fun hHeld => ?_)
       clear hK KK hr
       try simp only [Act.put, xa, xb, xc, xd, xe, xf]
       have Z_5 := Lib.hid hz
       clear Z_4 C_4 hz h3
       have hHeld : True := trivial
       refine wpAnyH_take (i := 15) (v := ?_) rfl (by kernel_rfl) (by kernel_rfl) (by kernel_rfl) (fun _ _ _ h => h) (Or.inl ⟨by kernel_rfl, ?_⟩) hHeld ?_
       rotate_left
       ·intro w hSw
        (try dsimp only at hSw)
        go_split_ands
        go_simp
        (try with_reducible rfl)
       try simp only [Act.put, xa, xb, xc, xd, xe, xf]
       refine wpAnyH_take (i := 16) (v := ?_) rfl (by kernel_rfl) (by kernel_rfl) (by kernel_rfl) (fun _ _ _ h => h) (Or.inl ⟨by kernel_rfl, ?_⟩) hHeld ?_
       rotate_left
       ·intro w hSw
        (try dsimp only at hSw)
        go_split_ands
        go_simp
        (try with_reducible rfl)
       try simp only [Act.put, xa, xb, xc, xd, xe, xf]
       refine wpAnyH_ready (rs := [17]) (by kernel_rfl) (by simp) ?_
       refine AllReadyH.cons rfl (fun KK hK => ?_) AllReadyH.nil
       clear hHeld
       have k0 := Z_5.out.d.cell 2
       have f0 := Z_5.out.d.frozen 2
       simp only [xg, xh, xi] at k0
       go_simp
       refine hK.out _ _ trivial (fun hHeld => ?_)
       clear hK KK k0 f0 hHeld
       try simp only [Act.put, xa, xb, xc, xd, xe, xf]
       refine anyH_world (fun wz => FX w4 wr wz B D Wb la lc cb _ _ _ _ _ _ _ _) (Z_5.out.st2 (.slice y2 (i + 1) d2)) ?_
       rintro v6 hz
       have Z_6 := Lib.hid hz
       clear hz Z_5
       have hHeld : True := trivial
       refine wpAnyH_take (i := 18) (v := ?_) rfl (by kernel_rfl) (by kernel_rfl) (by kernel_rfl) (fun _ _ _ h => h) (Or.inl ⟨by kernel_rfl, ?_⟩) hHeld ?_
       rotate_left
       ·intro w hSw
        (try dsimp only at hSw)
        go_split_ands
        go_simp
        (try with_reducible rfl)
       try simp only [Act.put, xa, xb, xc, xd, xe, xf]
       refine wpAnyH_take (i := 19) (v := ?_) rfl (by kernel_rfl) (by kernel_rfl) (by kernel_rfl) (fun _ _ _ h => h) (Or.inl ⟨by kernel_rfl, ?_⟩) hHeld ?_
       rotate_left
       ·intro w hSw
        (try dsimp only at hSw)
        go_split_ands
        go_simp
        (try with_reducible rfl)
       try simp only [Act.put, xa, xb, xc, xd, xe, xf]
       refine wpAnyH_ready (rs := [20]) (by kernel_rfl) (by simp) ?_
       refine AllReadyH.cons rfl (fun KK hK => ?_) AllReadyH.nil
       clear hHeld
       have k0 := Z_6.out.d.cell 4
       have f0 := Z_6.out.d.frozen 4
       simp only [xg, xh, xi] at k0
       go_simp
       refine hK.out _ _ trivial (fun hHeld => ?_)
       clear hK KK k0 f0 hHeld
       try simp only [Act.put, xa, xb, xc, xd, xe, xf]
       refine anyH_world (fun wz => FX w4 wr wz B D Wb la lc cb _ _ _ _ _ _ _ _) (Z_6.out.st4 (.slice y4 (i + 1) d4)) ?_
       rintro v7 hz
       have Z_7 := Lib.hid hz
       clear hz Z_6
       have hHeld : True := trivial
       refine wpAnyH_done (by kernel_rfl) ?_ _
       clear hHeld
       go_wp2_with fail
       refine ⟨⟨i + 1, rfl, by omega, Lib.hid (fix_end Z_7.out.k Z_7.out.d Z_7.out.o2 Z_7.out.o4)⟩, by simp [intOf]; omega⟩
      ·clear hHeld
       go_simp
       refine hK.out _ _ trivial (fun hHeld => ?_)
       clear hK KK hHeld
       try simp only [Act.put, xa, xb, xc, xd, xe, xf]
       refine anyH_world (fun wz => Ext v2 wz ∧ Bk wz v2.heap.size #[.int .u32 (i : Int)]) ⟨(Ext.refl v2).alloc _, Bk.at rfl⟩ ?_
       rintro v3 ⟨hE, hB⟩
       obtain ⟨Cb, hb⟩ : ∃ q, v2.heap.size = q := ⟨_, rfl⟩
       rw [hb] at hB
       try rw [hb]
       have LC := Lib.hid (show wr.heap.size ≤ Cb from hb ▸ Z_2.out.sz)
       have Z_3 := Lib.hid (Z_2.out.ext hE)
       have A_3 := Lib.hid (A_2.out.ext hE)
       clear hE hb Z_2 A_2
       have C_3 := Lib.hid (hB)
       clear hB
       have hHeld : True := trivial
       refine wpAnyH_ready (rs := [7]) (by kernel_rfl) (by simp) ?_
       refine AllReadyH.cons rfl (fun KK hK => ?_) AllReadyH.nil
       clear hHeld
       obtain ⟨y2, d2, v4, hr, hz, h3⟩ := Z_3.out.run2 A_3.out rfl (by omega)
       rw [if_pos (show _ = true by kernel_rfl)]
       unfold Oper.wp execOp
       simp only [resolve, invoke, builtin, Sem.run_bind, Sem.run_pure, Result.andThen_ok, List.map_toArray, List.map_cons, List.map_nil, Act.eval, xa, xb, xc]
       simp only [Array.getD_eq_getD_getElem?, xg, xh, xi, Option.getD_some, hr, Result.andThen_ok, Oper.upon]
       refine hK.out _ _ trivial (fun hHeld => ?_)
       clear hK KK hr
       try simp only [Act.put, xa, xb, xc, xd, xe, xf]
       have Z_4 := Lib.hid hz
       have C_4 := Lib.hid (C_3.out.grown Z_3.out.o2 (.inr (fun k e => by have := HO2L.out k e; have := LC.out; omega)) h3)
       clear Z_3 A_3 C_3 hz h3
       have hHeld : True := trivial
       refine wpAnyH_ready (rs := [14]) (by kernel_rfl) (by simp) ?_
       refine AllReadyH.cons rfl (fun KK hK => ?_) AllReadyH.nil
       clear hHeld
       obtain ⟨y4, d4, v5, hr, hz, h3⟩ := Z_4.out.run4 C_4.out rfl (by omega)
       rw [if_pos (show _ = true by kernel_rfl)]
       unfold Oper.wp execOp
       simp only [resolve, invoke, builtin, Sem.run_bind, Sem.run_pure, Result.andThen_ok, List.map_toArray, List.map_cons, List.map_nil, Act.eval, xa, xb, xc]
       simp only [Array.getD_eq_getD_getElem?, xg, xh, xi, Option.getD_some, hr, Result.andThen_ok, Oper.upon]
       refine hK.out _ _ trivial (fun hHeld => ?_)
       clear hK KK hr
       try simp only [Act.put, xa, xb, xc, xd, xe, xf]
       have Z_5 := Lib.hid hz
       clear Z_4 C_4 hz h3
       have hHeld : True := trivial
       refine wpAnyH_take (i := 15) (v := ?_) rfl (by kernel_rfl) (by kernel_rfl) (by kernel_rfl) (fun _ _ _ h => h) (Or.inl ⟨by kernel_rfl, ?_⟩) hHeld ?_
       rotate_left
       ·intro w hSw
        (try dsimp only at hSw)
        go_split_ands
        go_simp
        (try with_reducible rfl)
       try simp only [Act.put, xa, xb, xc, xd, xe, xf]
       refine wpAnyH_take (i := 16) (v := ?_) rfl (by kernel_rfl) (by kernel_rfl) (by kernel_rfl) (fun _ _ _ h => h) (Or.inl ⟨by kernel_rfl, ?_⟩) hHeld ?_
       rotate_left
       ·intro w hSw
        (try dsimp only at hSw)
        go_split_ands
        go_simp
        (try with_reducible rfl)
       try simp only [Act.put, xa, xb, xc, xd, xe, xf]
       refine wpAnyH_ready (rs := [17]) (by kernel_rfl) (by simp) ?_
       refine AllReadyH.cons rfl (fun KK hK => ?_) AllReadyH.nil
       clear hHeld
       have k0 := Z_5.out.d.cell 2
       have f0 := Z_5.out.d.frozen 2
       simp only [xg, xh, xi] at k0
       go_simp
       refine hK.out _ _ trivial (fun hHeld => ?_)
       clear hK KK k0 f0 hHeld
       try simp only [Act.put, xa, xb, xc, xd, xe, xf]
       refine anyH_world (fun wz => FX w4 wr wz B D Wb la lc cb _ _ _ _ _ _ _ _) (Z_5.out.st2 (.slice y2 (i + 1) d2)) ?_
       rintro v6 hz
       have Z_6 := Lib.hid hz
       clear hz Z_5
       have hHeld : True := trivial
       refine wpAnyH_take (i := 18) (v := ?_) rfl (by kernel_rfl) (by kernel_rfl) (by kernel_rfl) (fun _ _ _ h => h) (Or.inl ⟨by kernel_rfl, ?_⟩) hHeld ?_
       rotate_left
       ·intro w hSw
        (try dsimp only at hSw)
        go_split_ands
        go_simp
        (try with_reducible rfl)
       try simp only [Act.put, xa, xb, xc, xd, xe, xf]
       refine wpAnyH_take (i := 19) (v := ?_) rfl (by kernel_rfl) (by kernel_rfl) (by kernel_rfl) (fun _ _ _ h => h) (Or.inl ⟨by kernel_rfl, ?_⟩) hHeld ?_
       rotate_left
       ·intro w hSw
        (try dsimp only at hSw)
        go_split_ands
        go_simp
        (try with_reducible rfl)
       try simp only [Act.put, xa, xb, xc, xd, xe, xf]
       refine wpAnyH_ready (rs := [20]) (by kernel_rfl) (by simp) ?_
       refine AllReadyH.cons rfl (fun KK hK => ?_) AllReadyH.nil
       clear hHeld
       have k0 := Z_6.out.d.cell 4
       have f0 := Z_6.out.d.frozen 4
       simp only [xg, xh, xi] at k0
       go_simp
       refine hK.out _ _ trivial (fun hHeld => ?_)
       clear hK KK k0 f0 hHeld
       try simp only [Act.put, xa, xb, xc, xd, xe, xf]
       refine anyH_world (fun wz => FX w4 wr wz B D Wb la lc cb _ _ _ _ _ _ _ _) (Z_6.out.st4 (.slice y4 (i + 1) d4)) ?_
       rintro v7 hz
       have Z_7 := Lib.hid hz
       clear hz Z_6
       have hHeld : True := trivial
       refine wpAnyH_done (by kernel_rfl) ?_ _
       clear hHeld
       go_wp2_with fail
       refine ⟨⟨i + 1, rfl, by omega, Lib.hid (fix_end Z_7.out.k Z_7.out.d Z_7.out.o2 Z_7.out.o4)⟩, by simp [intOf]; omega⟩
     ·clear hHeld
      go_simp
      refine hK.out _ _ trivial (fun hHeld => ?_)
      clear hK KK hHeld
      try simp only [Act.put, xa, xb, xc, xd, xe, xf]
      refine anyH_world (fun wz => Ext v2 wz ∧ Bk wz v2.heap.size #[.int .u32 (i : Int)]) ⟨(Ext.refl v2).alloc _, Bk.at rfl⟩ ?_
      rintro v3 ⟨hE, hB⟩
      obtain ⟨Cb, hb⟩ : ∃ q, v2.heap.size = q := ⟨_, rfl⟩
      rw [hb] at hB
      try rw [hb]
      have LC := Lib.hid (show wr.heap.size ≤ Cb from hb ▸ Z_2.out.sz)
      have Z_3 := Lib.hid (Z_2.out.ext hE)
      have A_3 := Lib.hid (A_2.out.ext hE)
      clear hE hb Z_2 A_2
      have C_3 := Lib.hid (hB)
      clear hB
      have hHeld : True := trivial
      refine wpAnyH_ready (rs := [7, 11]) (by kernel_rfl) (by simp) ?_
      refine AllReadyH.cons rfl (fun KK hK => ?_) (AllReadyH.cons rfl (fun KK hK => ?_) AllReadyH.nil)
      ·clear hHeld
       obtain ⟨y2, d2, v4, hr, hz, h3⟩ := Z_3.out.run2 A_3.out rfl (by omega)
       rw [if_pos (show _ = true by kernel_rfl)]
       unfold Oper.wp execOp
       simp only [resolve, invoke, builtin, Sem.run_bind, Sem.run_pure, Result.andThen_ok, List.map_toArray, List.map_cons, List.map_nil, Act.eval, xa, xb, xc]
       simp only [Array.getD_eq_getD_getElem?, xg, xh, xi, Option.getD_some, hr, Result.andThen_ok, Oper.upon]
       refine hK.out _ _ trivial (fun hHeld => ?_)
       clear hK KK hr
       try simp only [Act.put, xa, xb, xc, xd, xe, xf]
       have Z_4 := Lib.hid hz
       have C_4 := Lib.hid (C_3.out.grown Z_3.out.o2 (.inr (fun k e => by have := HO2L.out k e; have := LC.out; omega)) h3)
       clear Z_3 A_3 C_3 hz h3
       have hHeld : True := trivial
       refine wpAnyH_ready (rs := [11]) (by kernel_rfl) (by simp) ?_
       refine AllReadyH.cons rfl (fun KK hK => ?_) AllReadyH.nil
       clear hHeld
       have k0 := Z_4.out.d.cell 4
       simp only [xg, xh, xi] at k0
       go_simp
       refine hK.out _ _ trivial (fun hHeld => ?_)
       clear hK KK k0
       try simp only [Act.put, xa, xb, xc, xd, xe, xf]
       refine wpAnyH_ready (rs := [14]) (by kernel_rfl) (by simp) ?_
       refine AllReadyH.cons rfl (fun KK hK => ?_) AllReadyH.nil
       clear hHeld
       obtain ⟨y4, d4, v5, hr, hz, h3⟩ := Z_4.out.run4 C_4.out rfl (by omega)
       rw [if_pos (show _ = true by kernel_rfl)]
       unfold Oper.wp execOp
       simp only [resolve, invoke, builtin, Sem.run_bind, Sem.run_pure, Result.andThen_ok, List.map_toArray, List.map_cons, List.map_nil, Act.eval, xa, xb, xc]
       simp only [Array.getD_eq_getD_getElem?, xg, xh, xi, Option.getD_some, hr, Result.andThen_ok, Oper.upon]
       refine hK.out _ _ trivial (fun hHeld => ?_)
       clear hK KK hr
       try simp only [Act.put, xa, xb, xc, xd, xe, xf]
       have Z_5 := Lib.hid hz
       clear Z_4 C_4 hz h3
       have hHeld : True := trivial
       refine wpAnyH_take (i := 15) (v := ?_) rfl (by kernel_rfl) (by kernel_rfl) (by kernel_rfl) (fun _ _ _ h => h) (Or.inl ⟨by kernel_rfl, ?_⟩) hHeld ?_
       rotate_left
       ·intro w hSw
        (try dsimp only at hSw)
        go_split_ands
        go_simp
        (try with_reducible rfl)
       try simp only [Act.put, xa, xb, xc, xd, xe, xf]
       refine wpAnyH_take (i := 16) (v := ?_) rfl (by kernel_rfl) (by kernel_rfl) (by kernel_rfl) (fun _ _ _ h => h) (Or.inl ⟨by kernel_rfl, ?_⟩) hHeld ?_
       rotate_left
       ·intro w hSw
        (try dsimp only at hSw)
        go_split_ands
        go_simp
        (try with_reducible rfl)
       try simp only [Act.put, xa, xb, xc, xd, xe, xf]
       refine wpAnyH_ready (rs := [17]) (by kernel_rfl) (by simp) ?_
       refine AllReadyH.cons rfl (fun KK hK => ?_) AllReadyH.nil
       clear hHeld
       have k0 := Z_5.out.d.cell 2
       have f0 := Z_5.out.d.frozen 2
       simp only [xg, xh, xi] at k0
       go_simp
       refine hK.out _ _ trivial (fun hHeld => ?_)
       clear hK KK k0 f0 hHeld
       try simp only [Act.put, xa, xb, xc, xd, xe, xf]
       refine anyH_world (fun wz => FX w4 wr wz B D Wb la lc cb _ _ _ _ _ _ _ _) (Z_5.out.st2 (.slice y2 (i + 1) d2)) ?_
       rintro v6 hz
       have Z_6 := Lib.hid hz
       clear hz Z_5
       have hHeld : True := trivial
       refine wpAnyH_take (i := 18) (v := ?_) rfl (by kernel_rfl) (by kernel_rfl) (by kernel_rfl) (fun _ _ _ h => h) (Or.inl ⟨by kernel_rfl, ?_⟩) hHeld ?_
       rotate_left
       ·intro w hSw
        (try dsimp only at hSw)
        go_split_ands
        go_simp
        (try with_reducible rfl)
       try simp only [Act.put, xa, xb, xc, xd, xe, xf]
       refine wpAnyH_take (i := 19) (v := ?_) rfl (by kernel_rfl) (by kernel_rfl) (by kernel_rfl) (fun _ _ _ h => h) (Or.inl ⟨by kernel_rfl, ?_⟩) hHeld ?_
       rotate_left
       ·intro w hSw
        (try dsimp only at hSw)
        go_split_ands
        go_simp
        (try with_reducible rfl)
       try simp only [Act.put, xa, xb, xc, xd, xe, xf]
       refine wpAnyH_ready (rs := [20]) (by kernel_rfl) (by simp) ?_
       refine AllReadyH.cons rfl (fun KK hK => ?_) AllReadyH.nil
       clear hHeld
       have k0 := Z_6.out.d.cell 4
       have f0 := Z_6.out.d.frozen 4
       simp only [xg, xh, xi] at k0
       go_simp
       refine hK.out _ _ trivial (fun hHeld => ?_)
       clear hK KK k0 f0 hHeld
       try simp only [Act.put, xa, xb, xc, xd, xe, xf]
       refine anyH_world (fun wz => FX w4 wr wz B D Wb la lc cb _ _ _ _ _ _ _ _) (Z_6.out.st4 (.slice y4 (i + 1) d4)) ?_
       rintro v7 hz
       have Z_7 := Lib.hid hz
       clear hz Z_6
       have hHeld : True := trivial
       refine wpAnyH_done (by kernel_rfl) ?_ _
       clear hHeld
       go_wp2_with fail
       refine ⟨⟨i + 1, rfl, by omega, Lib.hid (fix_end Z_7.out.k Z_7.out.d Z_7.out.o2 Z_7.out.o4)⟩, by simp [intOf]; omega⟩
      ·clear hHeld
       have k0 := Z_3.out.d.cell 4
       simp only [xg, xh, xi] at k0
       go_simp
       refine hK.out _ _ trivial (fun hHeld => ?_)
       clear hK KK k0
       try simp only [Act.put, xa, xb, xc, xd, xe, xf]
       refine wpAnyH_ready (rs := [7]) (by kernel_rfl) (by simp) ?_
       refine AllReadyH.cons rfl (fun KK hK => ?_) AllReadyH.nil
       clear hHeld
       obtain ⟨y2, d2, v4, hr, hz, h3⟩ := Z_3.out.run2 A_3.out rfl (by omega)
       rw [if_pos (show _ = true by kernel_rfl)]
       unfold Oper.wp execOp
       simp only [resolve, invoke, builtin, Sem.run_bind, Sem.run_pure, Result.andThen_ok, List.map_toArray, List.map_cons, List.map_nil, Act.eval, xa, xb, xc]
       simp only [Array.getD_eq_getD_getElem?, xg, xh, xi, Option.getD_some, hr, Result.andThen_ok, Oper.upon]
       refine hK.out _ _ trivial (fun hHeld => ?_)
       clear hK KK hr
       try simp only [Act.put, xa, xb, xc, xd, xe, xf]
       have Z_4 := Lib.hid hz
       have C_4 := Lib.hid (C_3.out.grown Z_3.out.o2 (.inr (fun k e => by have := HO2L.out k e; have := LC.out; omega)) h3)
       clear Z_3 A_3 C_3 hz h3
       have hHeld : True := trivial
       refine wpAnyH_ready (rs := [14]) (by kernel_rfl) (by simp) ?_
       refine AllReadyH.cons rfl (fun KK hK => ?_) AllReadyH.nil
       clear hHeld
       obtain ⟨y4, d4, v5, hr, hz, h3⟩ := Z_4.out.run4 C_4.out rfl (by omega)
       rw [if_pos (show _ = true by kernel_rfl)]
       unfold Oper.wp execOp
       simp only [resolve, invoke, builtin, Sem.run_bind, Sem.run_pure, Result.andThen_ok, List.map_toArray, List.map_cons, List.map_nil, Act.eval, xa, xb, xc]
       simp only [Array.getD_eq_getD_getElem?, xg, xh, xi, Option.getD_some, hr, Result.andThen_ok, Oper.upon]
       refine hK.out _ _ trivial (fun hHeld => ?_)
       clear hK KK hr
       try simp only [Act.put, xa, xb, xc, xd, xe, xf]
       have Z_5 := Lib.hid hz
       clear Z_4 C_4 hz h3
       have hHeld : True := trivial
       refine wpAnyH_take (i := 15) (v := ?_) rfl (by kernel_rfl) (by kernel_rfl) (by kernel_rfl) (fun _ _ _ h => h) (Or.inl ⟨by kernel_rfl, ?_⟩) hHeld ?_
       rotate_left
       ·intro w hSw
        (try dsimp only at hSw)
        go_split_ands
        go_simp
        (try with_reducible rfl)
       try simp only [Act.put, xa, xb, xc, xd, xe, xf]
       refine wpAnyH_take (i := 16) (v := ?_) rfl (by kernel_rfl) (by kernel_rfl) (by kernel_rfl) (fun _ _ _ h => h) (Or.inl ⟨by kernel_rfl, ?_⟩) hHeld ?_
       rotate_left
       ·intro w hSw
        (try dsimp only at hSw)
        go_split_ands
        go_simp
        (try with_reducible rfl)
       try simp only [Act.put, xa, xb, xc, xd, xe, xf]
       refine wpAnyH_ready (rs := [17]) (by kernel_rfl) (by simp) ?_
       refine AllReadyH.cons rfl (fun KK hK => ?_) AllReadyH.nil
       clear hHeld
       have k0 := Z_5.out.d.cell 2
       have f0 := Z_5.out.d.frozen 2
       simp only [xg, xh, xi] at k0
       go_simp
       refine hK.out _ _ trivial (fun hHeld => ?_)
       clear hK KK k0 f0 hHeld
       try simp only [Act.put, xa, xb, xc, xd, xe, xf]
       refine anyH_world (fun wz => FX w4 wr wz B D Wb la lc cb _ _ _ _ _ _ _ _) (Z_5.out.st2 (.slice y2 (i + 1) d2)) ?_
       rintro v6 hz
       have Z_6 := Lib.hid hz
       clear hz Z_5
       have hHeld : True := trivial
       refine wpAnyH_take (i := 18) (v := ?_) rfl (by kernel_rfl) (by kernel_rfl) (by kernel_rfl) (fun _ _ _ h => h) (Or.inl ⟨by kernel_rfl, ?_⟩) hHeld ?_
       rotate_left
       ·intro w hSw
        (try dsimp only at hSw)
        go_split_ands
        go_simp
        (try with_reducible rfl)
       try simp only [Act.put, xa, xb, xc, xd, xe, xf]
       refine wpAnyH_take (i := 19) (v := ?_) rfl (by kernel_rfl) (by kernel_rfl) (by kernel_rfl) (fun _ _ _ h => h) (Or.inl ⟨by kernel_rfl, ?_⟩) hHeld ?_
       rotate_left
       ·intro w hSw
        (try dsimp only at hSw)
        go_split_ands
        go_simp
        (try with_reducible rfl)
       try simp only [Act.put, xa, xb, xc, xd, xe, xf]
       refine wpAnyH_ready (rs := [20]) (by kernel_rfl) (by simp) ?_
       refine AllReadyH.cons rfl (fun KK hK => ?_) AllReadyH.nil
       clear hHeld
       have k0 := Z_6.out.d.cell 4
       have f0 := Z_6.out.d.frozen 4
       simp only [xg, xh, xi] at k0
       go_simp
       refine hK.out _ _ trivial (fun hHeld => ?_)
       clear hK KK k0 f0 hHeld
       try simp only [Act.put, xa, xb, xc, xd, xe, xf]
       refine anyH_world (fun wz => FX w4 wr wz B D Wb la lc cb _ _ _ _ _ _ _ _) (Z_6.out.st4 (.slice y4 (i + 1) d4)) ?_
       rintro v7 hz
       have Z_7 := Lib.hid hz
       clear hz Z_6
       have hHeld : True := trivial
       refine wpAnyH_done (by kernel_rfl) ?_ _
       clear hHeld
       go_wp2_with fail
       refine ⟨⟨i + 1, rfl, by omega, Lib.hid (fix_end Z_7.out.k Z_7.out.d Z_7.out.o2 Z_7.out.o4)⟩, by simp [intOf]; omega⟩
    ·clear hHeld
     have k0 := Z_1.out.d.cell 4
     simp only [xg, xh, xi] at k0
     go_simp
     refine hK.out _ _ trivial (fun hHeld => ?_)
     clear hK KK k0
     try simp only [Act.put, xa, xb, xc, xd, xe, xf]
     refine wpAnyH_ready (rs := [6, 13]) (by kernel_rfl) (by simp) ?_
     refine AllReadyH.cons rfl (fun KK hK => ?_) (AllReadyH.cons rfl (fun KK hK => ?_) AllReadyH.nil)
     ·clear hHeld
      go_simp
      refine hK.out _ _ trivial (fun hHeld => ?_)
      clear hK KK hHeld
      try simp only [Act.put, xa, xb, xc, xd, xe, xf]
      refine anyH_world (fun wz => Ext v1 wz ∧ Bk wz v1.heap.size #[.int .i64 5]) ⟨(Ext.refl v1).alloc _, Bk.at rfl⟩ ?_
      rintro v2 ⟨hE, hB⟩
      obtain ⟨Ab, hb⟩ : ∃ q, v1.heap.size = q := ⟨_, rfl⟩
      rw [hb] at hB
      try rw [hb]
      have LA := Lib.hid (show wr.heap.size ≤ Ab from hb ▸ Z_1.out.sz)
      have Z_2 := Lib.hid (Z_1.out.ext hE)
      clear hE hb Z_1
      have A_2 := Lib.hid (hB)
      clear hB
      have hHeld : True := trivial
      refine wpAnyH_ready (rs := [7, 13]) (by kernel_rfl) (by simp) ?_
      refine AllReadyH.cons rfl (fun KK hK => ?_) (AllReadyH.cons rfl (fun KK hK => ?_) AllReadyH.nil)
      ·clear hHeld
       obtain ⟨y2, d2, v3, hr, hz, h3⟩ := Z_2.out.run2 A_2.out rfl (by omega)
       rw [if_pos (show _ = true by kernel_rfl)]
       unfold Oper.wp execOp
       simp only [resolve, invoke, builtin, Sem.run_bind, Sem.run_pure, Result.andThen_ok, List.map_toArray, List.map_cons, List.map_nil, Act.eval, xa, xb, xc]
       simp only [Array.getD_eq_getD_getElem?, xg, xh, xi, Option.getD_some, hr, Result.andThen_ok, Oper.upon]
       refine hK.out _ _ trivial (fun hHeld => ?_)
       clear hK KK hr
       try simp only [Act.put, xa, xb, xc, xd, xe, xf]
       have Z_3 := Lib.hid hz
       clear Z_2 A_2 hz h3
       have hHeld : True := trivial
       refine wpAnyH_ready (rs := [13]) (by kernel_rfl) (by simp) ?_
       refine AllReadyH.cons rfl (fun KK hK => ?_) AllReadyH.nil
       clear hHeld
       go_simp
       refine hK.out _ _ trivial (fun hHeld => ?_)
       clear hK KK hHeld
       try simp only [Act.put, xa, xb, xc, xd, xe, xf]
       refine anyH_world (fun wz => Ext v3 wz ∧ Bk wz v3.heap.size #[.int .u32 (i : Int)]) ⟨(Ext.refl v3).alloc _, Bk.at rfl⟩ ?_
       rintro v4 ⟨hE, hB⟩
       obtain ⟨Cb, hb⟩ : ∃ q, v3.heap.size = q := ⟨_, rfl⟩
       rw [hb] at hB
       try rw [hb]
       have LC := Lib.hid (show wr.heap.size ≤ Cb from hb ▸ Z_3.out.sz)
       have Z_4 := Lib.hid (Z_3.out.ext hE)
       clear hE hb Z_3
       have C_4 := Lib.hid (hB)
       clear hB
       have hHeld : True := trivial
       refine wpAnyH_ready (rs := [14]) (by kernel_rfl) (by simp) ?_
       refine AllReadyH.cons rfl (fun KK hK => ?_) AllReadyH.nil
       clear hHeld
       obtain ⟨y4, d4, v5, hr, hz, h3⟩ := Z_4.out.run4 C_4.out rfl (by omega)
       rw [if_pos (show _ = true by kernel_rfl)]
       unfold Oper.wp execOp
       simp only [resolve, invoke, builtin, Sem.run_bind, Sem.run_pure, Result.andThen_ok, List.map_toArray, List.map_cons, List.map_nil, Act.eval, xa, xb, xc]
       simp only [Array.getD_eq_getD_getElem?, xg, xh, xi, Option.getD_some, hr, Result.andThen_ok, Oper.upon]
       refine hK.out _ _ trivial (fun hHeld => ?_)
       clear hK KK hr
       try simp only [Act.put, xa, xb, xc, xd, xe, xf]
       have Z_5 := Lib.hid hz
       clear Z_4 C_4 hz h3
       have hHeld : True := trivial
       refine wpAnyH_take (i := 15) (v := ?_) rfl (by kernel_rfl) (by kernel_rfl) (by kernel_rfl) (fun _ _ _ h => h) (Or.inl ⟨by kernel_rfl, ?_⟩) hHeld ?_
       rotate_left
       ·intro w hSw
        (try dsimp only at hSw)
        go_split_ands
        go_simp
        (try with_reducible rfl)
       try simp only [Act.put, xa, xb, xc, xd, xe, xf]
       refine wpAnyH_take (i := 16) (v := ?_) rfl (by kernel_rfl) (by kernel_rfl) (by kernel_rfl) (fun _ _ _ h => h) (Or.inl ⟨by kernel_rfl, ?_⟩) hHeld ?_
       rotate_left
       ·intro w hSw
        (try dsimp only at hSw)
        go_split_ands
        go_simp
        (try with_reducible rfl)
       try simp only [Act.put, xa, xb, xc, xd, xe, xf]
       refine wpAnyH_ready (rs := [17]) (by kernel_rfl) (by simp) ?_
       refine AllReadyH.cons rfl (fun KK hK => ?_) AllReadyH.nil
       clear hHeld
       have k0 := Z_5.out.d.cell 2
       have f0 := Z_5.out.d.frozen 2
       simp only [xg, xh, xi] at k0
       go_simp
       refine hK.out _ _ trivial (fun hHeld => ?_)
       clear hK KK k0 f0 hHeld
       try simp only [Act.put, xa, xb, xc, xd, xe, xf]
       refine anyH_world (fun wz => FX w4 wr wz B D Wb la lc cb _ _ _ _ _ _ _ _) (Z_5.out.st2 (.slice y2 (i + 1) d2)) ?_
       rintro v6 hz
       have Z_6 := Lib.hid hz
       clear hz Z_5
       have hHeld : True := trivial
       refine wpAnyH_take (i := 18) (v := ?_) rfl (by kernel_rfl) (by kernel_rfl) (by kernel_rfl) (fun _ _ _ h => h) (Or.inl ⟨by kernel_rfl, ?_⟩) hHeld ?_
       rotate_left
       ·intro w hSw
        (try dsimp only at hSw)
        go_split_ands
        go_simp
        (try with_reducible rfl)
       try simp only [Act.put, xa, xb, xc, xd, xe, xf]
       refine wpAnyH_take (i := 19) (v := ?_) rfl (by kernel_rfl) (by kernel_rfl) (by kernel_rfl) (fun _ _ _ h => h) (Or.inl ⟨by kernel_rfl, ?_⟩) hHeld ?_
       rotate_left
       ·intro w hSw
        (try dsimp only at hSw)
        go_split_ands
        go_simp
        (try with_reducible rfl)
       try simp only [Act.put, xa, xb, xc, xd, xe, xf]
       refine wpAnyH_ready (rs := [20]) (by kernel_rfl) (by simp) ?_
       refine AllReadyH.cons rfl (fun KK hK => ?_) AllReadyH.nil
       clear hHeld
       have k0 := Z_6.out.d.cell 4
       have f0 := Z_6.out.d.frozen 4
       simp only [xg, xh, xi] at k0
       go_simp
       refine hK.out _ _ trivial (fun hHeld => ?_)
       clear hK KK k0 f0 hHeld
       try simp only [Act.put, xa, xb, xc, xd, xe, xf]
       refine anyH_world (fun wz => FX w4 wr wz B D Wb la lc cb _ _ _ _ _ _ _ _) (Z_6.out.st4 (.slice y4 (i + 1) d4)) ?_
       rintro v7 hz
       have Z_7 := Lib.hid hz
       clear hz Z_6
       have hHeld : True := trivial
       refine wpAnyH_done (by kernel_rfl) ?_ _
       clear hHeld
       go_wp2_with fail
       refine ⟨⟨i + 1, rfl, by omega, Lib.hid (fix_end Z_7.out.k Z_7.out.d Z_7.out.o2 Z_7.out.o4)⟩, by simp [intOf]; omega⟩
      ·clear hHeld
       go_simp
       refine hK.out _ _ trivial (fun hHeld => ?_)
       clear hK KK hHeld
       try simp only [Act.put, xa, xb, xc, xd, xe, xf]
       refine anyH_world (fun wz => Ext v2 wz ∧ Bk wz v2.heap.size #[.int .u32 (i : Int)]) ⟨(Ext.refl v2).alloc _, Bk.at rfl⟩ ?_
       rintro v3 ⟨hE, hB⟩
       obtain ⟨Cb, hb⟩ : ∃ q, v2.heap.size = q := ⟨_, rfl⟩
       rw [hb] at hB
       try rw [hb]
       have LC := Lib.hid (show wr.heap.size ≤ Cb from hb ▸ Z_2.out.sz)
       have Z_3 := Lib.hid (Z_2.out.ext hE)
       have A_3 := Lib.hid (A_2.out.ext hE)
       clear hE hb Z_2 A_2
       have C_3 := Lib.hid (hB)
       clear hB
       have hHeld : True := trivial
       refine wpAnyH_ready (rs := [7]) (by kernel_rfl) (by simp) ?_
       refine AllReadyH.cons rfl (fun KK hK => ?_) AllReadyH.nil
       clear hHeld
       obtain ⟨y2, d2, v4, hr, hz, h3⟩ := Z_3.out.run2 A_3.out rfl (by omega)
       rw [if_pos (show _ = true by kernel_rfl)]
       unfold Oper.wp execOp
       simp only [resolve, invoke, builtin, Sem.run_bind, Sem.run_pure, Result.andThen_ok, List.map_toArray, List.map_cons, List.map_nil, Act.eval, xa, xb, xc]
       simp only [Array.getD_eq_getD_getElem?, xg, xh, xi, Option.getD_some, hr, Result.andThen_ok, Oper.upon]
       refine hK.out _ _ trivial (fun hHeld => ?_)
       clear hK KK hr
       try simp only [Act.put, xa, xb, xc, xd, xe, xf]
       have Z_4 := Lib.hid hz
       have C_4 := Lib.hid (C_3.out.grown Z_3.out.o2 (.inr (fun k e => by have := HO2L.out k e; have := LC.out; omega)) h3)
       clear Z_3 A_3 C_3 hz h3
       have hHeld : True := trivial
       refine wpAnyH_ready (rs := [14]) (by kernel_rfl) (by simp) ?_
       refine AllReadyH.cons rfl (fun KK hK => ?_) AllReadyH.nil
       clear hHeld
       obtain ⟨y4, d4, v5, hr, hz, h3⟩ := Z_4.out.run4 C_4.out rfl (by omega)
       rw [if_pos (show _ = true by kernel_rfl)]
       unfold Oper.wp execOp
       simp only [resolve, invoke, builtin, Sem.run_bind, Sem.run_pure, Result.andThen_ok, List.map_toArray, List.map_cons, List.map_nil, Act.eval, xa, xb, xc]
       simp only [Array.getD_eq_getD_getElem?, xg, xh, xi, Option.getD_some, hr, Result.andThen_ok, Oper.upon]
       refine hK.out _ _ trivial (fun hHeld => ?_)
       clear hK KK hr
       try simp only [Act.put, xa, xb, xc, xd, xe, xf]
       have Z_5 := Lib.hid hz
       clear Z_4 C_4 hz h3
       have hHeld : True := trivial
       refine wpAnyH_take (i := 15) (v := ?_) rfl (by kernel_rfl) (by kernel_rfl) (by kernel_rfl) (fun _ _ _ h => h) (Or.inl ⟨by kernel_rfl, ?_⟩) hHeld ?_
       rotate_left
       ·intro w hSw
        (try dsimp only at hSw)
        go_split_ands
        go_simp
        (try with_reducible rfl)
       try simp only [Act.put, xa, xb, xc, xd, xe, xf]
       refine wpAnyH_take (i := 16) (v := ?_) rfl (by kernel_rfl) (by kernel_rfl) (by kernel_rfl) (fun _ _ _ h => h) (Or.inl ⟨by kernel_rfl, ?_⟩) hHeld ?_
       rotate_left
       ·intro w hSw
        (try dsimp only at hSw)
        go_split_ands
        go_simp
        (try with_reducible rfl)
       try simp only [Act.put, xa, xb, xc, xd, xe, xf]
       refine wpAnyH_ready (rs := [17]) (by kernel_rfl) (by simp) ?_
       refine AllReadyH.cons rfl (fun KK hK => ?_) AllReadyH.nil
       clear hHeld
       have k0 := Z_5.out.d.cell 2
       have f0 := Z_5.out.d.frozen 2
       simp only [xg, xh, xi] at k0
       go_simp
       refine hK.out _ _ trivial (fun hHeld => ?_)
       clear hK KK k0 f0 hHeld
       try simp only [Act.put, xa, xb, xc, xd, xe, xf]
       refine anyH_world (fun wz => FX w4 wr wz B D Wb la lc cb _ _ _ _ _ _ _ _) (Z_5.out.st2 (.slice y2 (i + 1) d2)) ?_
       rintro v6 hz
       have Z_6 := Lib.hid hz
       clear hz Z_5
       have hHeld : True := trivial
       refine wpAnyH_take (i := 18) (v := ?_) rfl (by kernel_rfl) (by kernel_rfl) (by kernel_rfl) (fun _ _ _ h => h) (Or.inl ⟨by kernel_rfl, ?_⟩) hHeld ?_
       rotate_left
       ·intro w hSw
        (try dsimp only at hSw)
        go_split_ands
        go_simp
        (try with_reducible rfl)
       try simp only [Act.put, xa, xb, xc, xd, xe, xf]
       refine wpAnyH_take (i := 19) (v := ?_) rfl (by kernel_rfl) (by kernel_rfl) (by kernel_rfl) (fun _ _ _ h => h) (Or.inl ⟨by kernel_rfl, ?_⟩) hHeld ?_
       rotate_left
       ·intro w hSw
        (try dsimp only at hSw)
        go_split_ands
        go_simp
        (try with_reducible rfl)
       try simp only [Act.put, xa, xb, xc, xd, xe, xf]
       refine wpAnyH_ready (rs := [20]) (by kernel_rfl) (by simp) ?_
       refine AllReadyH.cons rfl (fun KK hK => ?_) AllReadyH.nil
       clear hHeld
       have k0 := Z_6.out.d.cell 4
       have f0 := Z_6.out.d.frozen 4
       simp only [xg, xh, xi] at k0
       go_simp
       refine hK.out _ _ trivial (fun hHeld => ?_)
       clear hK KK k0 f0 hHeld
       try simp only [Act.put, xa, xb, xc, xd, xe, xf]
       refine anyH_world (fun wz => FX w4 wr wz B D Wb la lc cb _ _ _ _ _ _ _ _) (Z_6.out.st4 (.slice y4 (i + 1) d4)) ?_
       rintro v7 hz
       have Z_7 := Lib.hid hz
       clear hz Z_6
       have hHeld : True := trivial
       refine wpAnyH_done (by kernel_rfl) ?_ _
       clear hHeld
       go_wp2_with fail
       refine ⟨⟨i + 1, rfl, by omega, Lib.hid (fix_end Z_7.out.k Z_7.out.d Z_7.out.o2 Z_7.out.o4)⟩, by simp [intOf]; omega⟩
     ·clear hHeld
      go_simp
      refine hK.out _ _ trivial (fun hHeld => ?_)
      clear hK KK hHeld
      try simp only [Act.put, xa, xb, xc, xd, xe, xf]
      refine anyH_world (fun wz => Ext v1 wz ∧ Bk wz v1.heap.size #[.int .u32 (i : Int)]) ⟨(Ext.refl v1).alloc _, Bk.at rfl⟩ ?_
      rintro v2 ⟨hE, hB⟩
      obtain ⟨Cb, hb⟩ : ∃ q, v1.heap.size = q := ⟨_, rfl⟩
      rw [hb] at hB
      try rw [hb]
      have LC := Lib.hid (show wr.heap.size ≤ Cb from hb ▸ Z_1.out.sz)
      have Z_2 := Lib.hid (Z_1.out.ext hE)
      clear hE hb Z_1
      have C_2 := Lib.hid (hB)
      clear hB
      have hHeld : True := trivial
      refine wpAnyH_ready (rs := [6]) (by kernel_rfl) (by simp) ?_
      refine AllReadyH.cons rfl (fun KK hK => ?_) AllReadyH.nil
      clear hHeld
      go_simp
      refine hK.out _ _ trivial (fun hHeld => ?_)
      clear hK KK hHeld
      try simp only [Act.put, xa, xb, xc, xd, xe, xf]
      refine anyH_world (fun wz => Ext v2 wz ∧ Bk wz v2.heap.size #[.int .i64 5]) ⟨(Ext.refl v2).alloc _, Bk.at rfl⟩ ?_
      rintro v3 ⟨hE, hB⟩
      obtain ⟨Ab, hb⟩ : ∃ q, v2.heap.size = q := ⟨_, rfl⟩
      rw [hb] at hB
      try rw [hb]
      have LA := Lib.hid (show wr.heap.size ≤ Ab from hb ▸ Z_2.out.sz)
      have Z_3 := Lib.hid (Z_2.out.ext hE)
      have C_3 := Lib.hid (C_2.out.ext hE)
      clear hE hb Z_2 C_2
      have A_3 := Lib.hid (hB)
      clear hB
      have hHeld : True := trivial
      refine wpAnyH_ready (rs := [7]) (by kernel_rfl) (by simp) ?_
      refine AllReadyH.cons rfl (fun KK hK => ?_) AllReadyH.nil
      clear hHeld
      obtain ⟨y2, d2, v4, hr, hz, h3⟩ := Z_3.out.run2 A_3.out rfl (by omega)
      rw [if_pos (show _ = true by kernel_rfl)]
      unfold Oper.wp execOp
      simp only [resolve, invoke, builtin, Sem.run_bind, Sem.run_pure, Result.andThen_ok, List.map_toArray, List.map_cons, List.map_nil, Act.eval, xa, xb, xc]
      simp only [Array.getD_eq_getD_getElem?, xg, xh, xi, Option.getD_some, hr, Result.andThen_ok, Oper.upon]
      refine hK.out _ _ trivial (fun hHeld => ?_)
      clear hK KK hr
      try simp only [Act.put, xa, xb, xc, xd, xe, xf]
      have Z_4 := Lib.hid hz
      have C_4 := Lib.hid (C_3.out.grown Z_3.out.o2 (.inr (fun k e => by have := HO2L.out k e; have := LC.out; omega)) h3)
      clear Z_3 C_3 A_3 hz h3
      have hHeld : True := trivial
      refine wpAnyH_ready (rs := [14]) (by kernel_rfl) (by simp) ?_
      refine AllReadyH.cons rfl (fun KK hK => ?_) AllReadyH.nil
      clear hHeld
      obtain ⟨y4, d4, v5, hr, hz, h3⟩ := Z_4.out.run4 C_4.out rfl (by omega)
      rw [if_pos (show _ = true by kernel_rfl)]
      unfold Oper.wp execOp
      simp only [resolve, invoke, builtin, Sem.run_bind, Sem.run_pure, Result.andThen_ok, List.map_toArray, List.map_cons, List.map_nil, Act.eval, xa, xb, xc]
      simp only [Array.getD_eq_getD_getElem?, xg, xh, xi, Option.getD_some, hr, Result.andThen_ok, Oper.upon]
      refine hK.out _ _ trivial (fun hHeld => ?_)
      clear hK KK hr
      try simp only [Act.put, xa, xb, xc, xd, xe, xf]
      have Z_5 := Lib.hid hz
      clear Z_4 C_4 hz h3
      have hHeld : True := trivial
      refine wpAnyH_take (i := 15) (v := ?_) rfl (by kernel_rfl) (by kernel_rfl) (by kernel_rfl) (fun _ _ _ h => h) (Or.inl ⟨by kernel_rfl, ?_⟩) hHeld ?_
      rotate_left
      ·intro w hSw
       (try dsimp only at hSw)
       go_split_ands
       go_simp
       (try with_reducible rfl)
      try simp only [Act.put, xa, xb, xc, xd, xe, xf]
      refine wpAnyH_take (i := 16) (v := ?_) rfl (by kernel_rfl) (by kernel_rfl) (by kernel_rfl) (fun _ _ _ h => h) (Or.inl ⟨by kernel_rfl, ?_⟩) hHeld ?_
      rotate_left
      ·intro w hSw
       (try dsimp only at hSw)
       go_split_ands
       go_simp
       (try with_reducible rfl)
      try simp only [Act.put, xa, xb, xc, xd, xe, xf]
      refine wpAnyH_ready (rs := [17]) (by kernel_rfl) (by simp) ?_
      refine AllReadyH.cons rfl (fun KK hK => ?_) AllReadyH.nil
      clear hHeld
      have k0 := Z_5.out.d.cell 2
      have f0 := Z_5.out.d.frozen 2
      simp only [xg, xh, xi] at k0
      go_simp
      refine hK.out _ _ trivial (fun hHeld => ?_)
      clear hK KK k0 f0 hHeld
      try simp only [Act.put, xa, xb, xc, xd, xe, xf]
      refine anyH_world (fun wz => FX w4 wr wz B D Wb la lc cb _ _ _ _ _ _ _ _) (Z_5.out.st2 (.slice y2 (i + 1) d2)) ?_
      rintro v6 hz
      have Z_6 := Lib.hid hz
      clear hz Z_5
      have hHeld : True := trivial
      refine wpAnyH_take (i := 18) (v := ?_) rfl (by kernel_rfl) (by kernel_rfl) (by kernel_rfl) (fun _ _ _ h => h) (Or.inl ⟨by kernel_rfl, ?_⟩) hHeld ?_
      rotate_left
      ·intro w hSw
       (try dsimp only at hSw)
       go_split_ands
       go_simp
       (try with_reducible rfl)
      try simp only [Act.put, xa, xb, xc, xd, xe, xf]
      refine wpAnyH_take (i := 19) (v := ?_) rfl (by kernel_rfl) (by kernel_rfl) (by kernel_rfl) (fun _ _ _ h => h) (Or.inl ⟨by kernel_rfl, ?_⟩) hHeld ?_
      rotate_left
      ·intro w hSw
       (try dsimp only at hSw)
       go_split_ands
       go_simp
       (try with_reducible rfl)
      try simp only [Act.put, xa, xb, xc, xd, xe, xf]
      refine wpAnyH_ready (rs := [20]) (by kernel_rfl) (by simp) ?_
      refine AllReadyH.cons rfl (fun KK hK => ?_) AllReadyH.nil
      clear hHeld
      have k0 := Z_6.out.d.cell 4
      have f0 := Z_6.out.d.frozen 4
      simp only [xg, xh, xi] at k0
      go_simp
      refine hK.out _ _ trivial (fun hHeld => ?_)
      clear hK KK k0 f0 hHeld
      try simp only [Act.put, xa, xb, xc, xd, xe, xf]
      refine anyH_world (fun wz => FX w4 wr wz B D Wb la lc cb _ _ _ _ _ _ _ _) (Z_6.out.st4 (.slice y4 (i + 1) d4)) ?_
      rintro v7 hz
      have Z_7 := Lib.hid hz
      clear hz Z_6
      have hHeld : True := trivial
      refine wpAnyH_done (by kernel_rfl) ?_ _
      clear hHeld
      go_wp2_with fail
      refine ⟨⟨i + 1, rfl, by omega, Lib.hid (fix_end Z_7.out.k Z_7.out.d Z_7.out.o2 Z_7.out.o4)⟩, by simp [intOf]; omega⟩
    ·clear hHeld
     go_simp
     refine hK.out _ _ trivial (fun hHeld => ?_)
     clear hK KK hHeld
     try simp only [Act.put, xa, xb, xc, xd, xe, xf]
     refine anyH_world (fun wz => Ext v1 wz ∧ Bk wz v1.heap.size #[.int .u32 (i : Int)]) ⟨(Ext.refl v1).alloc _, Bk.at rfl⟩ ?_
     rintro v2 ⟨hE, hB⟩
     obtain ⟨Cb, hb⟩ : ∃ q, v1.heap.size = q := ⟨_, rfl⟩
     rw [hb] at hB
     try rw [hb]
     have LC := Lib.hid (show wr.heap.size ≤ Cb from hb ▸ Z_1.out.sz)
     have Z_2 := Lib.hid (Z_1.out.ext hE)
     clear hE hb Z_1
     have C_2 := Lib.hid (hB)
     clear hB
     have hHeld : True := trivial
     refine wpAnyH_ready (rs := [6, 11]) (by kernel_rfl) (by simp) ?_
     refine AllReadyH.cons rfl (fun KK hK => ?_) (AllReadyH.cons rfl (fun KK hK => ?_) AllReadyH.nil)
     ·clear hHeld
      go_simp
      refine hK.out _ _ trivial (fun hHeld => ?_)
      clear hK KK hHeld
      try simp only [Act.put, xa, xb, xc, xd, xe, xf]
      refine anyH_world (fun wz => Ext v2 wz ∧ Bk wz v2.heap.size #[.int .i64 5]) ⟨(Ext.refl v2).alloc _, Bk.at rfl⟩ ?_
      rintro v3 ⟨hE, hB⟩
      obtain ⟨Ab, hb⟩ : ∃ q, v2.heap.size = q := ⟨_, rfl⟩
      rw [hb] at hB
      try rw [hb]
      have LA := Lib.hid (show wr.heap.size ≤ Ab from hb ▸ Z_2.out.sz)
      have Z_3 := Lib.hid (Z_2.out.ext hE)
      have C_3 := Lib.hid (C_2.out.ext hE)
      clear hE hb Z_2 C_2
      have A_3 := Lib.hid (hB)
      clear hB
      have hHeld : True := trivial
      refine wpAnyH_ready (rs := [7, 11]) (by kernel_rfl) (by simp) ?_
      refine AllReadyH.cons rfl (fun KK hK => ?_) (AllReadyH.cons rfl (fun KK hK => ?_) AllReadyH.nil)
      ·clear hHeld
       obtain ⟨y2, d2, v4, hr, hz, h3⟩ := Z_3.out.run2 A_3.out rfl (by omega)
       rw [if_pos (show _ = true by kernel_rfl)]
       unfold Oper.wp execOp
       simp only [resolve, invoke, builtin, Sem.run_bind, Sem.run_pure, Result.andThen_ok, List.map_toArray, List.map_cons, List.map_nil, Act.eval, xa, xb, xc]
       simp only [Array.getD_eq_getD_getElem?, xg, xh, xi, Option.getD_some, hr, Result.andThen_ok, Oper.upon]
       refine hK.out _ _ trivial (fun hHeld => ?_)
       clear hK KK hr
       try simp only [Act.put, xa, xb, xc, xd, xe, xf]
       have Z_4 := Lib.hid hz
       have C_4 := Lib.hid (C_3.out.grown Z_3.out.o2 (.inr (fun k e => by have := HO2L.out k e; have := LC.out; omega)) h3)
       clear Z_3 C_3 A_3 hz h3
       have hHeld : True := trivial
       refine wpAnyH_ready (rs := [11]) (by kernel_rfl) (by simp) ?_
       refine AllReadyH.cons rfl (fun KK hK => ?_) AllReadyH.nil
       clear hHeld
       have k0 := Z_4.out.d.cell 4
       simp only [xg, xh, xi] at k0
       go_simp
       refine hK.out _ _ trivial (fun hHeld => ?_)
       clear hK KK k0
       try simp only [Act.put, xa, xb, xc, xd, xe, xf]
       refine wpAnyH_ready (rs := [14]) (by kernel_rfl) (by simp) ?_
       refine AllReadyH.cons rfl (fun KK hK => ?_) AllReadyH.nil
       clear hHeld
       obtain ⟨y4, d4, v5, hr, hz, h3⟩ := Z_4.out.run4 C_4.out rfl (by omega)
       rw [if_pos (show _ = true by kernel_rfl)]
       unfold Oper.wp execOp
       simp only [resolve, invoke, builtin, Sem.run_bind, Sem.run_pure, Result.andThen_ok, List.map_toArray, List.map_cons, List.map_nil, Act.eval, xa, xb, xc]
       simp only [Array.getD_eq_getD_getElem?, xg, xh, xi, Option.getD_some, hr, Result.andThen_ok, Oper.upon]
       refine hK.out _ _ trivial (fun hHeld => ?_)
       clear hK KK hr
       try simp only [Act.put, xa, xb, xc, xd, xe, xf]
       have Z_5 := Lib.hid hz
       clear Z_4 C_4 hz h3
       have hHeld : True := trivial
       refine wpAnyH_take (i := 15) (v := ?_) rfl (by kernel_rfl) (by kernel_rfl) (by kernel_rfl) (fun _ _ _ h => h) (Or.inl ⟨by kernel_rfl, ?_⟩) hHeld ?_
       rotate_left
       ·intro w hSw
        (try dsimp only at hSw)
        go_split_ands
        go_simp
        (try with_reducible rfl)
       try simp only [Act.put, xa, xb, xc, xd, xe, xf]
       refine wpAnyH_take (i := 16) (v := ?_) rfl (by kernel_rfl) (by kernel_rfl) (by kernel_rfl) (fun _ _ _ h => h) (Or.inl ⟨by kernel_rfl, ?_⟩) hHeld ?_
       rotate_left
       ·intro w hSw
        (try dsimp only at hSw)
        go_split_ands
        go_simp
        (try with_reducible rfl)
       try simp only [Act.put, xa, xb, xc, xd, xe, xf]
       refine wpAnyH_ready (rs := [17]) (by kernel_rfl) (by simp) ?_
       refine AllReadyH.cons rfl (fun KK hK => ?_) AllReadyH.nil
       clear hHeld
       have k0 := Z_5.out.d.cell 2
       have f0 := Z_5.out.d.frozen 2
       simp only [xg, xh, xi] at k0
       go_simp
       refine hK.out _ _ trivial (fun hHeld => ?_)
       clear hK KK k0 f0 hHeld
       try simp only [Act.put, xa, xb, xc, xd, xe, xf]
       refine anyH_world (fun wz => FX w4 wr wz B D Wb la lc cb _ _ _ _ _ _ _ _) (Z_5.out.st2 (.slice y2 (i + 1) d2)) ?_
       rintro v6 hz
       have Z_6 := Lib.hid hz
       clear hz Z_5
       have hHeld : True := trivial
       refine wpAnyH_take (i := 18) (v := ?_) rfl (by kernel_rfl) (by kernel_rfl) (by kernel_rfl) (fun _ _ _ h => h) (Or.inl ⟨by kernel_rfl, ?_⟩) hHeld ?_
       rotate_left
       ·intro w hSw
        (try dsimp only at hSw)
        go_split_ands
        go_simp
        (try with_reducible rfl)
       try simp only [Act.put, xa, xb, xc, xd, xe, xf]
       refine wpAnyH_take (i := 19) (v := ?_) rfl (by kernel_rfl) (by kernel_rfl) (by kernel_rfl) (fun _ _ _ h => h) (Or.inl ⟨by kernel_rfl, ?_⟩) hHeld ?_
       rotate_left
       ·intro w hSw
        (try dsimp only at hSw)
        go_split_ands
        go_simp
        (try with_reducible rfl)
       try simp only [Act.put, xa, xb, xc, xd, xe, xf]
       refine wpAnyH_ready (rs := [20]) (by kernel_rfl) (by simp) ?_
       refine AllReadyH.cons rfl (fun KK hK => ?_) AllReadyH.nil
       clear hHeld
       have k0 := Z_6.out.d.cell 4
       have f0 := Z_6.out.d.frozen 4
       simp only [xg, xh, xi] at k0
       go_simp
       refine hK.out _ _ trivial (fun hHeld => ?_)
       clear hK KK k0 f0 hHeld
       try simp only [Act.put, xa, xb, xc, xd, xe, xf]
       refine anyH_world (fun wz => FX w4 wr wz B D Wb la lc cb _ _ _ _ _ _ _ _) (Z_6.out.st4 (.slice y4 (i + 1) d4)) ?_
       rintro v7 hz
       have Z_7 := Lib.hid hz
       clear hz Z_6
       have hHeld : True := trivial
       refine wpAnyH_done (by kernel_rfl) ?_ _
       clear hHeld
       go_wp2_with fail
       refine ⟨⟨i + 1, rfl, by omega, Lib.hid (fix_end Z_7.out.k Z_7.out.d Z_7.out.o2 Z_7.out.o4)⟩, by simp [intOf]; omega⟩
      ·clear hHeld
       have k0 := Z_3.out.d.cell 4
       simp only [xg, xh, xi] at k0
       go_simp
       refine hK.out _ _ trivial (fun hHeld => ?_)
       clear hK KK k0
       try simp only [Act.put, xa, xb, xc, xd, xe, xf]
       refine wpAnyH_ready (rs := [7]) (by kernel_rfl) (by simp) ?_
       refine AllReadyH.cons rfl (fun KK hK => ?_) AllReadyH.nil
       clear hHeld
       obtain ⟨y2, d2, v4, hr, hz, h3⟩ := Z_3.out.run2 A_3.out rfl (by omega)
       rw [if_pos (show _ = true by kernel_rfl)]
       unfold Oper.wp execOp
       simp only [resolve, invoke, builtin, Sem.run_bind, Sem.run_pure, Result.andThen_ok, List.map_toArray, List.map_cons, List.map_nil, Act.eval, xa, xb, xc]
       simp only [Array.getD_eq_getD_getElem?, xg, xh, xi, Option.getD_some, hr, Result.andThen_ok, Oper.upon]
       refine hK.out _ _ trivial (fun hHeld => ?_)
       clear hK KK hr
       try simp only [Act.put, xa, xb, xc, xd, xe, xf]
       have Z_4 := Lib.hid hz
       have C_4 := Lib.hid (C_3.out.grown Z_3.out.o2 (.inr (fun k e => by have := HO2L.out k e; have := LC.out; omega)) h3)
       clear Z_3 C_3 A_3 hz h3
       have hHeld : True := trivial
       refine wpAnyH_ready (rs := [14]) (by kernel_rfl) (by simp) ?_
       refine AllReadyH.cons rfl (fun KK hK => ?_) AllReadyH.nil
       clear hHeld
       obtain ⟨y4, d4, v5, hr, hz, h3⟩ := Z_4.out.run4 C_4.out rfl (by omega)
       rw [if_pos (show _ = true by kernel_rfl)]
       unfold Oper.wp execOp
       simp only [resolve, invoke, builtin, Sem.run_bind, Sem.run_pure, Result.andThen_ok, List.map_toArray, List.map_cons, List.map_nil, Act.eval, xa, xb, xc]
       simp only [Array.getD_eq_getD_getElem?, xg, xh, xi, Option.getD_some, hr, Result.andThen_ok, Oper.upon]
       refine hK.out _ _ trivial (fun hHeld => ?_)
       clear hK KK hr
       try simp only [Act.put, xa, xb, xc, xd, xe, xf]
       have Z_5 := Lib.hid hz
       clear Z_4 C_4 hz h3
       have hHeld : True := trivial
       refine wpAnyH_take (i := 15) (v := ?_) rfl (by kernel_rfl) (by kernel_rfl) (by kernel_rfl) (fun _ _ _ h => h) (Or.inl ⟨by kernel_rfl, ?_⟩) hHeld ?_
       rotate_left
       ·intro w hSw
        (try dsimp only at hSw)
        go_split_ands
        go_simp
        (try with_reducible rfl)
       try simp only [Act.put, xa, xb, xc, xd, xe, xf]
       refine wpAnyH_take (i := 16) (v := ?_) rfl (by kernel_rfl) (by kernel_rfl) (by kernel_rfl) (fun _ _ _ h => h) (Or.inl ⟨by kernel_rfl, ?_⟩) hHeld ?_
       rotate_left
       ·intro w hSw
        (try dsimp only at hSw)
        go_split_ands
        go_simp
        (try with_reducible rfl)
       try simp only [Act.put, xa, xb, xc, xd, xe, xf]
       refine wpAnyH_ready (rs := [17]) (by kernel_rfl) (by simp) ?_
       refine AllReadyH.cons rfl (fun KK hK => ?_) AllReadyH.nil
       clear hHeld
       have k0 := Z_5.out.d.cell 2
       have f0 := Z_5.out.d.frozen 2
       simp only [xg, xh, xi] at k0
       go_simp
       refine hK.out _ _ trivial (fun hHeld => ?_)
       clear hK KK k0 f0 hHeld
       try simp only [Act.put, xa, xb, xc, xd, xe, xf]
       refine anyH_world (fun wz => FX w4 wr wz B D Wb la lc cb _ _ _ _ _ _ _ _) (Z_5.out.st2 (.slice y2 (i + 1) d2)) ?_
       rintro v6 hz
       have Z_6 := Lib.hid hz
       clear hz Z_5
       have hHeld : True := trivial
       refine wpAnyH_take (i := 18) (v := ?_) rfl (by kernel_rfl) (by kernel_rfl) (by kernel_rfl) (fun _ _ _ h => h) (Or.inl ⟨by kernel_rfl, ?_⟩) hHeld ?_
       rotate_left
       ·intro w hSw
        (try dsimp only at hSw)
        go_split_ands
        go_simp
        (try with_reducible rfl)
       try simp only [Act.put, xa, xb, xc, xd, xe, xf]
       refine wpAnyH_take (i := 19) (v := ?_) rfl (by kernel_rfl) (by kernel_rfl) (by kernel_rfl) (fun _ _ _ h => h) (Or.inl ⟨by kernel_rfl, ?_⟩) hHeld ?_
       rotate_left
       ·intro w hSw
        (try dsimp only at hSw)
        go_split_ands
        go_simp
        (try with_reducible rfl)
       try simp only [Act.put, xa, xb, xc, xd, xe, xf]
       refine wpAnyH_ready (rs := [20]) (by kernel_rfl) (by simp) ?_
       refine AllReadyH.cons rfl (fun KK hK => ?_) AllReadyH.nil
       clear hHeld
       have k0 := Z_6.out.d.cell 4
       have f0 := Z_6.out.d.frozen 4
       simp only [xg, xh, xi] at k0
       go_simp
       refine hK.out _ _ trivial (fun hHeld => ?_)
       clear hK KK k0 f0 hHeld
       try simp only [Act.put, xa, xb, xc, xd, xe, xf]
       refine anyH_world (fun wz => FX w4 wr wz B D Wb la lc cb _ _ _ _ _ _ _ _) (Z_6.out.st4 (.slice y4 (i + 1) d4)) ?_
       rintro v7 hz
       have Z_7 := Lib.hid hz
       clear hz Z_6
       have hHeld : True := trivial
       refine wpAnyH_done (by kernel_rfl) ?_ _
       clear hHeld
       go_wp2_with fail
       refine ⟨⟨i + 1, rfl, by omega, Lib.hid (fix_end Z_7.out.k Z_7.out.d Z_7.out.o2 Z_7.out.o4)⟩, by simp [intOf]; omega⟩
     ·clear hHeld
      have k0 := Z_2.out.d.cell 4
      simp only [xg, xh, xi] at k0
      go_simp
      refine hK.out _ _ trivial (fun hHeld => ?_)
      clear hK KK k0
      try simp only [Act.put, xa, xb, xc, xd, xe, xf]
      refine wpAnyH_ready (rs := [6]) (by kernel_rfl) (by simp) ?_
      refine AllReadyH.cons rfl (fun KK hK => ?_) AllReadyH.nil
      clear hHeld
      go_simp
      refine hK.out _ _ trivial (fun hHeld => ?_)
      clear hK KK hHeld
      try simp only [Act.put, xa, xb, xc, xd, xe, xf]
      refine anyH_world (fun wz => Ext v2 wz ∧ Bk wz v2.heap.size #[.int .i64 5]) ⟨(Ext.refl v2).alloc _, Bk.at rfl⟩ ?_
      rintro v3 ⟨hE, hB⟩
      obtain ⟨Ab, hb⟩ : ∃ q, v2.heap.size = q := ⟨_, rfl⟩
      rw [hb] at hB
      try rw [hb]
      have LA := Lib.hid (show wr.heap.size ≤ Ab from hb ▸ Z_2.out.sz)
      have Z_3 := Lib.hid (Z_2.out.ext hE)
      have C_3 := Lib.hid (C_2.out.ext hE)
      clear hE hb Z_2 C_2
      have A_3 := Lib.hid (hB)
      clear hB
      have hHeld : True := trivial
      refine wpAnyH_ready (rs := [7]) (by kernel_rfl) (by simp) ?_
      refine AllReadyH.cons rfl (fun KK hK => ?_) AllReadyH.nil
      clear hHeld
      obtain ⟨y2, d2, v4, hr, hz, h3⟩ := Z_3.out.run2 A_3.out rfl (by omega)
      rw [if_pos (show _ = true by kernel_rfl)]
      unfold Oper.wp execOp
      simp only [resolve, invoke, builtin, Sem.run_bind, Sem.run_pure, Result.andThen_ok, List.map_toArray, List.map_cons, List.map_nil, Act.eval, xa, xb, xc]
      simp only [Array.getD_eq_getD_getElem?, xg, xh, xi, Option.getD_some, hr, Result.andThen_ok, Oper.upon]
      refine hK.out _ _ trivial (fun hHeld => ?_)
      clear hK KK hr
      try simp only [Act.put, xa, xb, xc, xd, xe, xf]
      have Z_4 := Lib.hid hz
      have C_4 := Lib.hid (C_3.out.grown Z_3.out.o2 (.inr (fun k e => by have := HO2L.out k e; have := LC.out; omega)) h3)
      clear Z_3 C_3 A_3 hz h3
      have hHeld : True := trivial
      refine wpAnyH_ready (rs := [14]) (by kernel_rfl) (by simp) ?_
      refine AllReadyH.cons rfl (fun KK hK => ?_) AllReadyH.nil
      clear hHeld
      obtain ⟨y4, d4, v5, hr, hz, h3⟩ := Z_4.out.run4 C_4.out rfl (by omega)
      rw [if_pos (show _ = true by kernel_rfl)]
      unfold Oper.wp execOp
      simp only [resolve, invoke, builtin, Sem.run_bind, Sem.run_pure, Result.andThen_ok, List.map_toArray, List.map_cons, List.map_nil, Act.eval, xa, xb, xc]
      simp only [Array.getD_eq_getD_getElem?, xg, xh, xi, Option.getD_some, hr, Result.andThen_ok, Oper.upon]
      refine hK.out _ _ trivial (fun hHeld => ?_)
      clear hK KK hr
      try simp only [Act.put, xa, xb, xc, xd, xe, xf]
      have Z_5 := Lib.hid hz
      clear Z_4 C_4 hz h3
      have hHeld : True := trivial
      refine wpAnyH_take (i := 15) (v := ?_) rfl (by kernel_rfl) (by kernel_rfl) (by kernel_rfl) (fun _ _ _ h => h) (Or.inl ⟨by kernel_rfl, ?_⟩) hHeld ?_
      rotate_left
      ·intro w hSw
       (try dsimp only at hSw)
       go_split_ands
       go_simp
       (try with_reducible rfl)
      try simp only [Act.put, xa, xb, xc, xd, xe, xf]
      refine wpAnyH_take (i := 16) (v := ?_) rfl (by kernel_rfl) (by kernel_rfl) (by kernel_rfl) (fun _ _ _ h => h) (Or.inl ⟨by kernel_rfl, ?_⟩) hHeld ?_
      rotate_left
      ·intro w hSw
       (try dsimp only at hSw)
       go_split_ands
       go_simp
       (try with_reducible rfl)
      try simp only [Act.put, xa, xb, xc, xd, xe, xf]
      refine wpAnyH_ready (rs := [17]) (by kernel_rfl) (by simp) ?_
      refine AllReadyH.cons rfl (fun KK hK => ?_) AllReadyH.nil
      clear hHeld
      have k0 := Z_5.out.d.cell 2
      have f0 := Z_5.out.d.frozen 2
      simp only [xg, xh, xi] at k0
      go_simp
      refine hK.out _ _ trivial (fun hHeld => ?_)
      clear hK KK k0 f0 hHeld
      try simp only [Act.put, xa, xb, xc, xd, xe, xf]
      refine anyH_world (fun wz => FX w4 wr wz B D Wb la lc cb _ _ _ _ _ _ _ _) (Z_5.out.st2 (.slice y2 (i + 1) d2)) ?_
      rintro v6 hz
      have Z_6 := Lib.hid hz
      clear hz Z_5
      have hHeld : True := trivial
      refine wpAnyH_take (i := 18) (v := ?_) rfl (by kernel_rfl) (by kernel_rfl) (by kernel_rfl) (fun _ _ _ h => h) (Or.inl ⟨by kernel_rfl, ?_⟩) hHeld ?_
      rotate_left
      ·intro w hSw
       (try dsimp only at hSw)
       go_split_ands
       go_simp
       (try with_reducible rfl)
      try simp only [Act.put, xa, xb, xc, xd, xe, xf]
      refine wpAnyH_take (i := 19) (v := ?_) rfl (by kernel_rfl) (by kernel_rfl) (by kernel_rfl) (fun _ _ _ h => h) (Or.inl ⟨by kernel_rfl, ?_⟩) hHeld ?_
      rotate_left
      ·intro w hSw
       (try dsimp only at hSw)
       go_split_ands
       go_simp
       (try with_reducible rfl)
      try simp only [Act.put, xa, xb, xc, xd, xe, xf]
      refine wpAnyH_ready (rs := [20]) (by kernel_rfl) (by simp) ?_
      refine AllReadyH.cons rfl (fun KK hK => ?_) AllReadyH.nil
      clear hHeld
      have k0 := Z_6.out.d.cell 4
      have f0 := Z_6.out.d.frozen 4
      simp only [xg, xh, xi] at k0
      go_simp
      refine hK.out _ _ trivial (fun hHeld => ?_)
      clear hK KK k0 f0 hHeld
      try simp only [Act.put, xa, xb, xc, xd, xe, xf]
      refine anyH_world (fun wz => FX w4 wr wz B D Wb la lc cb _ _ _ _ _ _ _ _) (Z_6.out.st4 (.slice y4 (i + 1) d4)) ?_
      rintro v7 hz
      have Z_7 := Lib.hid hz
      clear hz Z_6
      have hHeld : True := trivial
      refine wpAnyH_done (by kernel_rfl) ?_ _
      clear hHeld
      go_wp2_with fail
      refine ⟨⟨i + 1, rfl, by omega, Lib.hid (fix_end Z_7.out.k Z_7.out.d Z_7.out.o2 Z_7.out.o4)⟩, by simp [intOf]; omega⟩
   ·clear hHeld
    go_simp
    refine hK.out _ _ trivial (fun hHeld => ?_)
    clear hK KK hHeld
    try simp only [Act.put, xa, xb, xc, xd, xe, xf]
    refine anyH_world (fun wz => Ext v1 wz ∧ Bk wz v1.heap.size #[.int .i64 5]) ⟨(Ext.refl v1).alloc _, Bk.at rfl⟩ ?_
    rintro v2 ⟨hE, hB⟩
    obtain ⟨Ab, hb⟩ : ∃ q, v1.heap.size = q := ⟨_, rfl⟩
    rw [hb] at hB
    try rw [hb]
    have LA := Lib.hid (show wr.heap.size ≤ Ab from hb ▸ Z_1.out.sz)
    have Z_2 := Lib.hid (Z_1.out.ext hE)
    clear hE hb Z_1
    have A_2 := Lib.hid (hB)
    clear hB
    have hHeld : True := trivial
    refine wpAnyH_ready (rs := [5, 11, 13]) (by kernel_rfl) (by simp) ?_
    refine AllReadyH.cons rfl (fun KK hK => ?_) (AllReadyH.cons rfl (fun KK hK => ?_) (AllReadyH.cons rfl (fun KK hK => ?_) AllReadyH.nil))
    ·clear hHeld
     have k0 := Z_2.out.d.cell 2
     simp only [xg, xh, xi] at k0
     go_simp
     refine hK.out _ _ trivial (fun hHeld => ?_)
     clear hK KK k0
     try simp only [Act.put, xa, xb, xc, xd, xe, xf]
     refine wpAnyH_ready (rs := [7, 11, 13]) (by kernel_rfl) (by simp) ?_
     refine AllReadyH.cons rfl (fun KK hK => ?_) (AllReadyH.cons rfl (fun KK hK => ?_) (AllReadyH.cons rfl (fun KK hK => ?_) AllReadyH.nil))
     ·clear hHeld
      obtain ⟨y2, d2, v3, hr, hz, h3⟩ := Z_2.out.run2 A_2.out rfl (by omega)
      rw [if_pos (show _ = true by kernel_rfl)]
      unfold Oper.wp execOp
      simp only [resolve, invoke, builtin, Sem.run_bind, Sem.run_pure, Result.andThen_ok, List.map_toArray, List.map_cons, List.map_nil, Act.eval, xa, xb, xc]
      simp only [Array.getD_eq_getD_getElem?, xg, xh, xi, Option.getD_some, hr, Result.andThen_ok, Oper.upon]
      refine hK.out _ _ trivial (fun hHeld => ?_)
      clear hK KK hr
      try simp only [Act.put, xa, xb, xc, xd, xe, xf]
      have Z_3 := Lib.hid hz
      clear Z_2 A_2 hz h3
      have hHeld : True := trivial
      refine wpAnyH_ready (rs := [11, 13]) (by kernel_rfl) (by simp) ?_
      refine AllReadyH.cons rfl (fun KK hK => ?_) (AllReadyH.cons rfl (fun KK hK => ?_) AllReadyH.nil)
      ·clear hHeld
       have k0 := Z_3.out.d.cell 4
       simp only [xg, xh, xi] at k0
       go_simp
       refine hK.out _ _ trivial (fun hHeld => ?_)
       clear hK KK k0
       try simp only [Act.put, xa, xb, xc, xd, xe, xf]
       refine wpAnyH_ready (rs := [13]) (by kernel_rfl) (by simp) ?_
       refine AllReadyH.cons rfl (fun KK hK => ?_) AllReadyH.nil
       clear hHeld
       go_simp
       refine hK.out _ _ trivial (fun hHeld => ?_)
       clear hK KK hHeld
       try simp only [Act.put, xa, xb, xc, xd, xe, xf]
       refine anyH_world (fun wz => Ext v3 wz ∧ Bk wz v3.heap.size #[.int .u32 (i : Int)]) ⟨(Ext.refl v3).alloc _, Bk.at rfl⟩ ?_
       rintro v4 ⟨hE, hB⟩
       obtain ⟨Cb, hb⟩ : ∃ q, v3.heap.size = q := ⟨_, rfl⟩
       rw [hb] at hB
       try rw [hb]
       have LC := Lib.hid (show wr.heap.size ≤ Cb from hb ▸ Z_3.out.sz)
       have Z_4 := Lib.hid (Z_3.out.ext hE)
       clear hE hb Z_3
       have C_4 := Lib.hid (hB)
       clear hB
       have hHeld : True := trivial
       refine wpAnyH_ready (rs := [14]) (by kernel_rfl) (by simp) ?_
       refine AllReadyH.cons rfl (fun KK hK => ?_) AllReadyH.nil
       clear hHeld
       obtain ⟨y4, d4, v5, hr, hz, h3⟩ := Z_4.out.run4 C_4.out rfl (by omega)
       rw [if_pos (show _ = true by kernel_rfl)]
       unfold Oper.wp execOp
       simp only [resolve, invoke, builtin, Sem.run_bind, Sem.run_pure, Result.andThen_ok, List.map_toArray, List.map_cons, List.map_nil, Act.eval, xa, xb, xc]
       simp only [Array.getD_eq_getD_getElem?, xg, xh, xi, Option.getD_some, hr, Result.andThen_ok, Oper.upon]
       refine hK.out _ _ trivial (fun hHeld => ?_)
       clear hK KK hr
       try simp only [Act.put, xa, xb, xc, xd, xe, xf]
       have Z_5 := Lib.hid hz
       clear Z_4 C_4 hz h3
       have hHeld : True := trivial
       refine wpAnyH_take (i := 15) (v := ?_) rfl (by kernel_rfl) (by kernel_rfl) (by kernel_rfl) (fun _ _ _ h => h) (Or.inl ⟨by kernel_rfl, ?_⟩) hHeld ?_
       rotate_left
       ·intro w hSw
        (try dsimp only at hSw)
        go_split_ands
        go_simp
        (try with_reducible rfl)
       try simp only [Act.put, xa, xb, xc, xd, xe, xf]
       refine wpAnyH_take (i := 16) (v := ?_) rfl (by kernel_rfl) (by kernel_rfl) (by kernel_rfl) (fun _ _ _ h => h) (Or.inl ⟨by kernel_rfl, ?_⟩) hHeld ?_
       rotate_left
       ·intro w hSw
        (try dsimp only at hSw)
        go_split_ands
        go_simp
        (try with_reducible rfl)
       try simp only [Act.put, xa, xb, xc, xd, xe, xf]
       refine wpAnyH_ready (rs := [17]) (by kernel_rfl) (by simp) ?_
       refine AllReadyH.cons rfl (fun KK hK => ?_) AllReadyH.nil
       clear hHeld
       have k0 := Z_5.out.d.cell 2
       have f0 := Z_5.out.d.frozen 2
       simp only [xg, xh, xi] at k0
       go_simp
       refine hK.out _ _ trivial (fun hHeld => ?_)
       clear hK KK k0 f0 hHeld
       try simp only [Act.put, xa, xb, xc, xd, xe, xf]
       refine anyH_world (fun wz => FX w4 wr wz B D Wb la lc cb _ _ _ _ _ _ _ _) (Z_5.out.st2 (.slice y2 (i + 1) d2)) ?_
       rintro v6 hz
       have Z_6 := Lib.hid hz
       clear hz Z_5
       have hHeld : True := trivial
       refine wpAnyH_take (i := 18) (v := ?_) rfl (by kernel_rfl) (by kernel_rfl) (by kernel_rfl) (fun _ _ _ h => h) (Or.inl ⟨by kernel_rfl, ?_⟩) hHeld ?_
       rotate_left
       ·intro w hSw
        (try dsimp only at hSw)
        go_split_ands
        go_simp
        (try with_reducible rfl)
       try simp only [Act.put, xa, xb, xc, xd, xe, xf]
       refine wpAnyH_take (i := 19) (v := ?_) rfl (by kernel_rfl) (by kernel_rfl) (by kernel_rfl) (fun _ _ _ h => h) (Or.inl ⟨by kernel_rfl, ?_⟩) hHeld ?_
       rotate_left
       ·intro w hSw
        (try dsimp only at hSw)
        go_split_ands
        go_simp
        (try with_reducible rfl)
       try simp only [Act.put, xa, xb, xc, xd, xe, xf]
       refine wpAnyH_ready (rs := [20]) (by kernel_rfl) (by simp) ?_
       refine AllReadyH.cons rfl (fun KK hK => ?_) AllReadyH.nil
       clear hHeld
       have k0 := Z_6.out.d.cell 4
       have f0 := Z_6.out.d.frozen 4
       simp only [xg, xh, xi] at k0
       go_simp
       refine hK.out _ _ trivial (fun hHeld => ?_)
       clear hK KK k0 f0 hHeld
       try simp only [Act.put, xa, xb, xc, xd, xe, xf]
       refine anyH_world (fun wz => FX w4 wr wz B D Wb la lc cb _ _ _ _ _ _ _ _) (Z_6.out.st4 (.slice y4 (i + 1) d4)) ?_
       rintro v7 hz
       have Z_7 := Lib.hid hz
       clear hz Z_6
       have hHeld : True := trivial
       refine wpAnyH_done (by kernel_rfl) ?_ _
       clear hHeld
       go_wp2_with fail
       refine ⟨⟨i + 1, rfl, by omega, Lib.hid (fix_end Z_7.out.k Z_7.out.d Z_7.out.o2 Z_7.out.o4)⟩, by simp [intOf]; omega⟩
      ·clear hHeld
       go_simp
       refine hK.out _ _ trivial (fun hHeld => ?_)
       clear hK KK hHeld
       try simp only [Act.put, xa, xb, xc, xd, xe, xf]
       refine anyH_world (fun wz => Ext v3 wz ∧ Bk wz v3.heap.size #[.int .u32 (i : Int)]) ⟨(Ext.refl v3).alloc _, Bk.at rfl⟩ ?_
       rintro v4 ⟨hE, hB⟩
       obtain ⟨Cb, hb⟩ : ∃ q, v3.heap.size = q := ⟨_, rfl⟩
       rw [hb] at hB
       try rw [hb]
       have LC := Lib.hid (show wr.heap.size ≤ Cb from hb ▸ Z_3.out.sz)
       have Z_4 := Lib.hid (Z_3.out.ext hE)
       clear hE hb Z_3
       have C_4 := Lib.hid (hB)
       clear hB
       have hHeld : True := trivial
       refine wpAnyH_ready (rs := [11]) (by kernel_rfl) (by simp) ?_
       refine AllReadyH.cons rfl (fun KK hK => ?_) AllReadyH.nil
       clear hHeld
       have k0 := Z_4.out.d.cell 4
       simp only [xg, xh, xi] at k0
       go_simp
       refine hK.out _ _ trivial (fun hHeld => ?_)
       clear hK KK k0
       try simp only [Act.put, xa, xb, xc, xd, xe, xf]
       refine wpAnyH_ready (rs := [14]) (by kernel_rfl) (by simp) ?_
       refine AllReadyH.cons rfl (fun KK hK => ?_) AllReadyH.nil
       clear hHeld
       obtain ⟨y4, d4, v5, hr, hz, h3⟩ := Z_4.out.run4 C_4.out rfl (by omega)
       rw [if_pos (show _ = true by kernel_rfl)]
       unfold Oper.wp execOp
       simp only [resolve, invoke, builtin, Sem.run_bind, Sem.run_pure, Result.andThen_ok, List.map_toArray, List.map_cons, List.map_nil, Act.eval, xa, xb, xc]
       simp only [Array.getD_eq_getD_getElem?, xg, xh, xi, Option.getD_some, hr, Result.andThen_ok, Oper.upon]
       refine hK.out _ _ trivial (fun hHeld => ?_)
       clear hK KK hr
       try simp only [Act.put, xa, xb, xc, xd, xe, xf]
       have Z_5 := Lib.hid hz
       clear Z_4 C_4 hz h3
       have hHeld : True := trivial
       refine wpAnyH_take (i := 15) (v := ?_) rfl (by kernel_rfl) (by kernel_rfl) (by kernel_rfl) (fun _ _ _ h => h) (Or.inl ⟨by kernel_rfl, ?_⟩) hHeld ?_
       rotate_left
       ·intro w hSw
        (try dsimp only at hSw)
        go_split_ands
        go_simp
        (try with_reducible rfl)
       try simp only [Act.put, xa, xb, xc, xd, xe, xf]
       refine wpAnyH_take (i := 16) (v := ?_) rfl (by kernel_rfl) (by kernel_rfl) (by kernel_rfl) (fun _ _ _ h => h) (Or.inl ⟨by kernel_rfl, ?_⟩) hHeld ?_
       rotate_left
       ·intro w hSw
        (try dsimp only at hSw)
        go_split_ands
        go_simp
        (try with_reducible rfl)
       try simp only [Act.put, xa, xb, xc, xd, xe, xf]
       refine wpAnyH_ready (rs := [17]) (by kernel_rfl) (by simp) ?_
       refine AllReadyH.cons rfl (fun KK hK => ?_) AllReadyH.nil
       clear hHeld
       have k0 := Z_5.out.d.cell 2
       have f0 := Z_5.out.d.frozen 2
       simp only [xg, xh, xi] at k0
       go_simp
       refine hK.out _ _ trivial (fun hHeld => ?_)
       clear hK KK k0 f0 hHeld
       try simp only [Act.put, xa, xb, xc, xd, xe, xf]
       refine anyH_world (fun wz => FX w4 wr wz B D Wb la lc cb _ _ _ _ _ _ _ _) (Z_5.out.st2 (.slice y2 (i + 1) d2)) ?_
       rintro v6 hz
       have Z_6 := Lib.hid hz
       clear hz Z_5
       have hHeld : True := trivial
       refine wpAnyH_take (i := 18) (v := ?_) rfl (by kernel_rfl) (by kernel_rfl) (by kernel_rfl) (fun _ _ _ h => h) (Or.inl ⟨by kernel_rfl, ?_⟩) hHeld ?_
       rotate_left
       ·intro w hSw
        (try dsimp only at hSw)
        go_split_ands
        go_simp
        (try with_reducible rfl)
       try simp only [Act.put, xa, xb, xc, xd, xe, xf]
       refine wpAnyH_take (i := 19) (v := ?_) rfl (by kernel_rfl) (by kernel_rfl) (by kernel_rfl) (fun _ _ _ h => h) (Or.inl ⟨by kernel_rfl, ?_⟩) hHeld ?_
       rotate_left
       ·intro w hSw
        (try dsimp only at hSw)
        go_split_ands
        go_simp
        (try with_reducible rfl)
       try simp only [Act.put, xa, xb, xc, xd, xe, xf]
       refine wpAnyH_ready (rs := [20]) (by kernel_rfl) (by simp) ?_
       refine AllReadyH.cons rfl (fun KK hK => ?_) AllReadyH.nil
       clear hHeld
       have k0 := Z_6.out.d.cell 4
       have f0 := Z_6.out.d.frozen 4
       simp only [xg, xh, xi] at k0
       go_simp
       refine hK.out _ _ trivial (fun hHeld => ?_)
       clear hK KK k0 f0 hHeld
       try simp only [Act.put, xa, xb, xc, xd, xe, xf]
       refine anyH_world (fun wz => FX w4 wr wz B D Wb la lc cb _ _ _ _ _ _ _ _) (Z_6.out.st4 (.slice y4 (i + 1) d4)) ?_
       rintro v7 hz
       have Z_7 := Lib.hid hz
       clear hz Z_6
       have hHeld : True := trivial
       refine wpAnyH_done (by kernel_rfl) ?_ _
       clear hHeld
       go_wp2_with fail
       refine ⟨⟨i + 1, rfl, by omega, Lib.hid (fix_end Z_7.out.k Z_7.out.d Z_7.out.o2 Z_7.out.o4)⟩, by simp [intOf]; omega⟩
     ·clear hHeld
      have k0 := Z_2.out.d.cell 4
      simp only [xg, xh, xi] at k0
      go_simp
      refine hK.out _ _ trivial (fun hHeld => ?_)
      clear hK KK k0
      try simp only [Act.put, xa, xb, xc, xd, xe, xf]
      refine wpAnyH_ready (rs := [7, 13]) (by kernel_rfl) (by simp) ?_
      refine AllReadyH.cons rfl (fun KK hK => ?_) (AllReadyH.cons rfl (fun KK hK => ?_) AllReadyH.nil)
      ·clear hHeld
       obtain ⟨y2, d2, v3, hr, hz, h3⟩ := Z_2.out.run2 A_2.out rfl (by omega)
       rw [if_pos (show _ = true by kernel_rfl)]
       unfold Oper.wp execOp
       simp only [resolve, invoke, builtin, Sem.run_bind, Sem.run_pure, Result.andThen_ok, List.map_toArray, List.map_cons, List.map_nil, Act.eval, xa, xb, xc]
       simp only [Array.getD_eq_getD_getElem?, xg, xh, xi, Option.getD_some, hr, Result.andThen_ok, Oper.upon]
       refine hK.out _ _ trivial (fun hHeld => ?_)
       clear hK KK hr
       try simp only [Act.put, xa, xb, xc, xd, xe, xf]
       have Z_3 := Lib.hid hz
       clear Z_2 A_2 hz h3
       have hHeld : True := trivial
       refine wpAnyH_ready (rs := [13]) (by kernel_rfl) (by simp) ?_
       refine AllReadyH.cons rfl (fun KK hK => ?_) AllReadyH.nil
       clear hHeld
       go_simp
       refine hK.out _ _ trivial (fun hHeld => ?_)
       clear hK KK hHeld
       try simp only [Act.put, xa, xb, xc, xd, xe, xf]
       refine anyH_world (fun wz => Ext v3 wz ∧ Bk wz v3.heap.size #[.int .u32 (i : Int)]) ⟨(Ext.refl v3).alloc _, Bk.at rfl⟩ ?_
       rintro v4 ⟨hE, hB⟩
       obtain ⟨Cb, hb⟩ : ∃ q, v3.heap.size = q := ⟨_, rfl⟩
       rw [hb] at hB
       try rw [hb]
       have LC := Lib.hid (show wr.heap.size ≤ Cb from hb ▸ Z_3.out.sz)
       have Z_4 := Lib.hid (Z_3.out.ext hE)
       clear hE hb Z_3
       have C_4 := Lib.hid (hB)
       clear hB
       have hHeld : True := trivial
       refine wpAnyH_ready (rs := [14]) (by kernel_rfl) (by simp) ?_
       refine AllReadyH.cons rfl (fun KK hK => ?_) AllReadyH.nil
       clear hHeld
       obtain ⟨y4, d4, v5, hr, hz, h3⟩ := Z_4.out.run4 C_4.out rfl (by omega)
       rw [if_pos (show _ = true by kernel_rfl)]
       unfold Oper.wp execOp
       simp only [resolve, invoke, builtin, Sem.run_bind, Sem.run_pure, Result.andThen_ok, List.map_toArray, List.map_cons, List.map_nil, Act.eval, xa, xb, xc]
       simp only [Array.getD_eq_getD_getElem?, xg, xh, xi, Option.getD_some, hr, Result.andThen_ok, Oper.upon]
       refine hK.out _ _ trivial (fun hHeld => ?_)
       clear hK KK hr
       try simp only [Act.put, xa, xb, xc, xd, xe, xf]
       have Z_5 := Lib.hid hz
       clear Z_4 C_4 hz h3
       have hHeld : True := trivial
       refine wpAnyH_take (i := 15) (v := ?_) rfl (by kernel_rfl) (by kernel_rfl) (by kernel_rfl) (fun _ _ _ h => h) (Or.inl ⟨by kernel_rfl, ?_⟩) hHeld ?_
       rotate_left
       ·intro w hSw
        (try dsimp only at hSw)
        go_split_ands
        go_simp
        (try with_reducible rfl)
       try simp only [Act.put, xa, xb, xc, xd, xe, xf]
       refine wpAnyH_take (i := 16) (v := ?_) rfl (by kernel_rfl) (by kernel_rfl) (by kernel_rfl) (fun _ _ _ h => h) (Or.inl ⟨by kernel_rfl, ?_⟩) hHeld ?_
       rotate_left
       ·intro w hSw
        (try dsimp only at hSw)
        go_split_ands
        go_simp
        (try with_reducible rfl)
       try simp only [Act.put, xa, xb, xc, xd, xe, xf]
       refine wpAnyH_ready (rs := [17]) (by kernel_rfl) (by simp) ?_
       refine AllReadyH.cons rfl (fun KK hK => ?_) AllReadyH.nil
       clear hHeld
       have k0 := Z_5.out.d.cell 2
       have f0 := Z_5.out.d.frozen 2
       simp only [xg, xh, xi] at k0
       go_simp
       refine hK.out _ _ trivial (fun hHeld => ?_)
       clear hK KK k0 f0 hHeld
       try simp only [Act.put, xa, xb, xc, xd, xe, xf]
       refine anyH_world (fun wz => FX w4 wr wz B D Wb la lc cb _ _ _ _ _ _ _ _) (Z_5.out.st2 (.slice y2 (i + 1) d2)) ?_
       rintro v6 hz
       have Z_6 := Lib.hid hz
       clear hz Z_5
       have hHeld : True := trivial
       refine wpAnyH_take (i := 18) (v := ?_) rfl (by kernel_rfl) (by kernel_rfl) (by kernel_rfl) (fun _ _ _ h => h) (Or.inl ⟨by kernel_rfl, ?_⟩) hHeld ?_
       rotate_left
       ·intro w hSw
        (try dsimp only at hSw)
        go_split_ands
        go_simp
        (try with_reducible rfl)
       try simp only [Act.put, xa, xb, xc, xd, xe, xf]
       refine wpAnyH_take (i := 19) (v := ?_) rfl (by kernel_rfl) (by kernel_rfl) (by kernel_rfl) (fun _ _ _ h => h) (Or.inl ⟨by kernel_rfl, ?_⟩) hHeld ?_
       rotate_left
       ·intro w hSw
        (try dsimp only at hSw)
        go_split_ands
        go_simp
        (try with_reducible rfl)
       try simp only [Act.put, xa, xb, xc, xd, xe, xf]
       refine wpAnyH_ready (rs := [20]) (by kernel_rfl) (by simp) ?_
       refine AllReadyH.cons rfl (fun KK hK => ?_) AllReadyH.nil
       clear hHeld
       have k0 := Z_6.out.d.cell 4
       have f0 := Z_6.out.d.frozen 4
       simp only [xg, xh, xi] at k0
       go_simp
       refine hK.out _ _ trivial (fun hHeld => ?_)
       clear hK KK k0 f0 hHeld
       try simp only [Act.put, xa, xb, xc, xd, xe, xf]
       refine anyH_world (fun wz => FX w4 wr wz B D Wb la lc cb _ _ _ _ _ _ _ _) (Z_6.out.st4 (.slice y4 (i + 1) d4)) ?_
       rintro v7 hz
       have Z_7 := Lib.hid hz
       clear hz Z_6
       have hHeld : True := trivial
       refine wpAnyH_done (by kernel_rfl) ?_ _
       clear hHeld
       go_wp2_with fail
       refine ⟨⟨i + 1, rfl, by omega, Lib.hid (fix_end Z_7.out.k Z_7.out.d Z_7.out.o2 Z_7.out.o4)⟩, by simp [intOf]; omega⟩
      ·clear hHeld
       go_simp
       refine hK.out _ _ trivial (fun hHeld => ?_)
       clear hK KK hHeld
       try simp only [Act.put, xa, xb, xc, xd, xe, xf]
       refine anyH_world (fun wz => Ext v2 wz ∧ Bk wz v2.heap.size #[.int .u32 (i : Int)]) ⟨(Ext.refl v2).alloc _, Bk.at rfl⟩ ?_
       rintro v3 ⟨hE, hB⟩
       obtain ⟨Cb, hb⟩ : ∃ q, v2.heap.size = q := ⟨_, rfl⟩
       rw [hb] at hB
       try rw [hb]
       have LC := Lib.hid (show wr.heap.size ≤ Cb from hb ▸ Z_2.out.sz)
       have Z_3 := Lib.hid (Z_2.out.ext hE)
       have A_3 := Lib.hid (A_2.out.ext hE)
       clear hE hb Z_2 A_2
       have C_3 := Lib.hid (hB)
       clear hB
       have hHeld : True := trivial
       refine wpAnyH_ready (rs := [7]) (by kernel_rfl) (by simp) ?_
       refine AllReadyH.cons rfl (fun KK hK => ?_) AllReadyH.nil
       clear hHeld
       obtain ⟨y2, d2, v4, hr, hz, h3⟩ := Z_3.out.run2 A_3.out rfl (by omega)
       rw [if_pos (show _ = true by kernel_rfl)]
       unfold Oper.wp execOp
       simp only [resolve, invoke, builtin, Sem.run_bind, Sem.run_pure, Result.andThen_ok, List.map_toArray, List.map_cons, List.map_nil, Act.eval, xa, xb, xc]
       simp only [Array.getD_eq_getD_getElem?, xg, xh, xi, Option.getD_some, hr, Result.andThen_ok, Oper.upon]
       refine hK.out _ _ trivial (fun hHeld => ?_)
       clear hK KK hr
       try simp only [Act.put, xa, xb, xc, xd, xe, xf]
       have Z_4 := Lib.hid hz
       have C_4 := Lib.hid (C_3.out.grown Z_3.out.o2 (.inr (fun k e => by have := HO2L.out k e; have := LC.out; omega)) h3)
       clear Z_3 A_3 C_3 hz h3
       have hHeld : True := trivial
       refine wpAnyH_ready (rs := [14]) (by kernel_rfl) (by simp) ?_
       refine AllReadyH.cons rfl (fun KK hK => ?_) AllReadyH.nil
       clear hHeld
       obtain ⟨y4, d4, v5, hr, hz, h3⟩ := Z_4.out.run4 C_4.out rfl (by omega)
       rw [if_pos (show _ = true by kernel_rfl)]
       unfold Oper.wp execOp
       simp only [resolve, invoke, builtin, Sem.run_bind, Sem.run_pure, Result.andThen_ok, List.map_toArray, List.map_cons, List.map_nil, Act.eval, xa, xb, xc]
       simp only [Array.getD_eq_getD_getElem?, xg, xh, xi, Option.getD_some, hr, Result.andThen_ok, Oper.upon]
       refine hK.out _ _ trivial (fun hHeld => ?_)
       clear hK KK hr
       try simp only [Act.put, xa, xb, xc, xd, xe, xf]
       have Z_5 := Lib.hid hz
       clear Z_4 C_4 hz h3
       have hHeld : True := trivial
       refine wpAnyH_take (i := 15) (v := ?_) rfl (by kernel_rfl) (by kernel_rfl) (by kernel_rfl) (fun _ _ _ h => h) (Or.inl ⟨by kernel_rfl, ?_⟩) hHeld ?_
       rotate_left
       ·intro w hSw
        (try dsimp only at hSw)
        go_split_ands
        go_simp
        (try with_reducible rfl)
       try simp only [Act.put, xa, xb, xc, xd, xe, xf]
       refine wpAnyH_take (i := 16) (v := ?_) rfl (by kernel_rfl) (by kernel_rfl) (by kernel_rfl) (fun _ _ _ h => h) (Or.inl ⟨by kernel_rfl, ?_⟩) hHeld ?_
       rotate_left
       ·intro w hSw
        (try dsimp only at hSw)
        go_split_ands
        go_simp
        (try with_reducible rfl)
       try simp only [Act.put, xa, xb, xc, xd, xe, xf]
       refine wpAnyH_ready (rs := [17]) (by kernel_rfl) (by simp) ?_
       refine AllReadyH.cons rfl (fun KK hK => ?_) AllReadyH.nil
       clear hHeld
       have k0 := Z_5.out.d.cell 2
       have f0 := Z_5.out.d.frozen 2
       simp only [xg, xh, xi] at k0
       go_simp
       refine hK.out _ _ trivial (fun hHeld => ?_)
       clear hK KK k0 f0 hHeld
       try simp only [Act.put, xa, xb, xc, xd, xe, xf]
       refine anyH_world (fun wz => FX w4 wr wz B D Wb la lc cb _ _ _ _ _ _ _ _) (Z_5.out.st2 (.slice y2 (i + 1) d2)) ?_
       rintro v6 hz
       have Z_6 := Lib.hid hz
       clear hz Z_5
       have hHeld : True := trivial
       refine wpAnyH_take (i := 18) (v := ?_) rfl (by kernel_rfl) (by kernel_rfl) (by kernel_rfl) (fun _ _ _ h => h) (Or.inl ⟨by kernel_rfl, ?_⟩) hHeld ?_
       rotate_left
       ·intro w hSw
        (try dsimp only at hSw)
        go_split_ands
        go_simp
        (try with_reducible rfl)
       try simp only [Act.put, xa, xb, xc, xd, xe, xf]
       refine wpAnyH_take (i := 19) (v := ?_) rfl (by kernel_rfl) (by kernel_rfl) (by kernel_rfl) (fun _ _ _ h => h) (Or.inl ⟨by kernel_rfl, ?_⟩) hHeld ?_
       rotate_left
       ·intro w hSw
        (try dsimp only at hSw)
        go_split_ands
        go_simp
        (try with_reducible rfl)
       try simp only [Act.put, xa, xb, xc, xd, xe, xf]
       refine wpAnyH_ready (rs := [20]) (by kernel_rfl) (by simp) ?_
       refine AllReadyH.cons rfl (fun KK hK => ?_) AllReadyH.nil
       clear hHeld
       have k0 := Z_6.out.d.cell 4
       have f0 := Z_6.out.d.frozen 4
       simp only [xg, xh, xi] at k0
       go_simp
       refine hK.out _ _ trivial (fun hHeld => ?_)
       clear hK KK k0 f0 hHeld
       try simp only [Act.put, xa, xb, xc, xd, xe, xf]
       refine anyH_world (fun wz => FX w4 wr wz B D Wb la lc cb _ _ _ _ _ _ _ _) (Z_6.out.st4 (.slice y4 (i + 1) d4)) ?_
       rintro v7 hz
       have Z_7 := Lib.hid hz
       clear hz Z_6
       have hHeld : True := trivial
       refine wpAnyH_done (by kernel_rfl) ?_ _
       clear hHeld
       go_wp2_with fail
       refine ⟨⟨i + 1, rfl, by omega, Lib.hid (fix_end Z_7.out.k Z_7.out.d Z_7.out.o2 Z_7.out.o4)⟩, by simp [intOf]; omega⟩
     ·clear hHeld
      go_simp
      refine hK.out _ _ trivial (fun hHeld => ?_)
      clear hK KK hHeld
      try simp only [Act.put, xa, xb, xc, xd, xe, xf]
      refine anyH_world (fun wz => Ext v2 wz ∧ Bk wz v2.heap.size #[.int .u32 (i : Int)]) ⟨(Ext.refl v2).alloc _, Bk.at rfl⟩ ?_
      rintro v3 ⟨hE, hB⟩
      obtain ⟨Cb, hb⟩ : ∃ q, v2.heap.size = q := ⟨_, rfl⟩
      rw [hb] at hB
      try rw [hb]
      have LC := Lib.hid (show wr.heap.size ≤ Cb from hb ▸ Z_2.out.sz)
      have Z_3 := Lib.hid (Z_2.out.ext hE)
      have A_3 := Lib.hid (A_2.out.ext hE)
      clear hE hb Z_2 A_2
      have C_3 := Lib.hid (hB)
      clear hB
      have hHeld : True := trivial
      refine wpAnyH_ready (rs := [7, 11]) (by kernel_rfl) (by simp) ?_
      refine AllReadyH.cons rfl (fun KK hK => ?_) (AllReadyH.cons rfl (fun KK hK => ?_) AllReadyH.nil)
      ·clear hHeld
       obtain ⟨y2, d2, v4, hr, hz, h3⟩ := Z_3.out.run2 A_3.out rfl (by omega)
       rw [if_pos (show _ = true by kernel_rfl)]
       unfold Oper.wp execOp
       simp only [resolve, invoke, builtin, Sem.run_bind, Sem.run_pure, Result.andThen_ok, List.map_toArray, List.map_cons, List.map_nil, Act.eval, xa, xb, xc]
       simp only [Array.getD_eq_getD_getElem?, xg, xh, xi, Option.getD_some, hr, Result.andThen_ok, Oper.upon]
       refine hK.out _ _ trivial (fun hHeld => ?_)
       clear hK KK hr
       try simp only [Act.put, xa, xb, xc, xd, xe, xf]
       have Z_4 := Lib.hid hz
       have C_4 := Lib.hid (C_3.out.grown Z_3.out.o2 (.inr (fun k e => by have := HO2L.out k e; have := LC.out; omega)) h3)
       clear Z_3 A_3 C_3 hz h3
       have hHeld : True := trivial
       refine wpAnyH_ready (rs := [11]) (by kernel_rfl) (by simp) ?_
       refine AllReadyH.cons rfl (fun KK hK => ?_) AllReadyH.nil
       clear hHeld
       have k0 := Z_4.out.d.cell 4
       simp only [xg, xh, xi] at k0
       go_simp
       refine hK.out _ _ trivial (fun hHeld => ?_)
       clear hK KK k0
       try simp only [Act.put, xa, xb, xc, xd, xe, xf]
       refine wpAnyH_ready (rs := [14]) (by kernel_rfl) (by simp) ?_
       refine AllReadyH.cons rfl (fun KK hK => ?_) AllReadyH.nil
       clear hHeld
       obtain ⟨y4, d4, v5, hr, hz, h3⟩ := Z_4.out.run4 C_4.out rfl (by omega)
       rw [if_pos (show _ = true by kernel_rfl)]
       unfold Oper.wp execOp
       simp only [resolve, invoke, builtin, Sem.run_bind, Sem.run_pure, Result.andThen_ok, List.map_toArray, List.map_cons, List.map_nil, Act.eval, xa, xb, xc]
       simp only [Array.getD_eq_getD_getElem?, xg, xh, xi, Option.getD_some, hr, Result.andThen_ok, Oper.upon]
       refine hK.out _ _ trivial (fun hHeld => ?_)
       clear hK KK hr
       try simp only [Act.put, xa, xb, xc, xd, xe, xf]
       have Z_5 := Lib.hid hz
       clear Z_4 C_4 hz h3
       have hHeld : True := trivial
       refine wpAnyH_take (i := 15) (v := ?_) rfl (by kernel_rfl) (by kernel_rfl) (by kernel_rfl) (fun _ _ _ h => h) (Or.inl ⟨by kernel_rfl, ?_⟩) hHeld ?_
       rotate_left
       ·intro w hSw
        (try dsimp only at hSw)
        go_split_ands
        go_simp
        (try with_reducible rfl)
       try simp only [Act.put, xa, xb, xc, xd, xe, xf]
       refine wpAnyH_take (i := 16) (v := ?_) rfl (by kernel_rfl) (by kernel_rfl) (by kernel_rfl) (fun _ _ _ h => h) (Or.inl ⟨by kernel_rfl, ?_⟩) hHeld ?_
       rotate_left
       ·intro w hSw
        (try dsimp only at hSw)
        go_split_ands
        go_simp
        (try with_reducible rfl)
       try simp only [Act.put, xa, xb, xc, xd, xe, xf]
       refine wpAnyH_ready (rs := [17]) (by kernel_rfl) (by simp) ?_
       refine AllReadyH.cons rfl (fun KK hK => ?_) AllReadyH.nil
       clear hHeld
       have k0 := Z_5.out.d.cell 2
       have f0 := Z_5.out.d.frozen 2
       simp only [xg, xh, xi] at k0
       go_simp
       refine hK.out _ _ trivial (fun hHeld => ?_)
       clear hK KK k0 f0 hHeld
       try simp only [Act.put, xa, xb, xc, xd, xe, xf]
       refine anyH_world (fun wz => FX w4 wr wz B D Wb la lc cb _ _ _ _ _ _ _ _) (Z_5.out.st2 (.slice y2 (i + 1) d2)) ?_
       rintro v6 hz
       have Z_6 := Lib.hid hz
       clear hz Z_5
       have hHeld : True := trivial
       refine wpAnyH_take (i := 18) (v := ?_) rfl (by kernel_rfl) (by kernel_rfl) (by kernel_rfl) (fun _ _ _ h => h) (Or.inl ⟨by kernel_rfl, ?_⟩) hHeld ?_
       rotate_left
       ·intro w hSw
        (try dsimp only at hSw)
        go_split_ands
        go_simp
        (try with_reducible rfl)
       try simp only [Act.put, xa, xb, xc, xd, xe, xf]
       refine wpAnyH_take (i := 19) (v := ?_) rfl (by kernel_rfl) (by kernel_rfl) (by kernel_rfl) (fun _ _ _ h => h) (Or.inl ⟨by kernel_rfl, ?_⟩) hHeld ?_
       rotate_left
       ·intro w hSw
        (try dsimp only at hSw)
        go_split_ands
        go_simp
        (try with_reducible rfl)
       try simp only [Act.put, xa, xb, xc, xd, xe, xf]
       refine wpAnyH_ready (rs := [20]) (by kernel_rfl) (by simp) ?_
       refine AllReadyH.cons rfl (fun KK hK => ?_) AllReadyH.nil
       clear hHeld
       have k0 := Z_6.out.d.cell 4
       have f0 := Z_6.out.d.frozen 4
       simp only [xg, xh, xi] at k0
       go_simp
       refine hK.out _ _ trivial (fun hHeld => ?_)
       clear hK KK k0 f0 hHeld
       try simp only [Act.put, xa, xb, xc, xd, xe, xf]
       refine anyH_world (fun wz => FX w4 wr wz B D Wb la lc cb _ _ _ _ _ _ _ _) (Z_6.out.st4 (.slice y4 (i + 1) d4)) ?_
       rintro v7 hz
       have Z_7 := Lib.hid hz
       clear hz Z_6
       have hHeld : True := trivial
       refine wpAnyH_done (by kernel_rfl) ?_ _
       clear hHeld
       go_wp2_with fail
       refine ⟨⟨i + 1, rfl, by omega, Lib.hid (fix_end Z_7.out.k Z_7.out.d Z_7.out.o2 Z_7.out.o4)⟩, by simp [intOf]; omega⟩
      ·clear hHeld
       have k0 := Z_3.out.d.cell 4
       simp only [xg, xh, xi] at k0
       go_simp
       refine hK.out _ _ trivial (fun hHeld => ?_)
       clear hK KK k0
       try simp only [Act.put, xa, xb, xc, xd, xe, xf]
       refine wpAnyH_ready (rs := [7]) (by kernel_rfl) (by simp) ?_
       refine AllReadyH.cons rfl (fun KK hK => ?_) AllReadyH.nil
       clear hHeld
       obtain ⟨y2, d2, v4, hr, hz, h3⟩ := Z_3.out.run2 A_3.out rfl (by omega)
       rw [if_pos (show _ = true by kernel_rfl)]
       unfold Oper.wp execOp
       simp only [resolve, invoke, builtin, Sem.run_bind, Sem.run_pure, Result.andThen_ok, List.map_toArray, List.map_cons, List.map_nil, Act.eval, xa, xb, xc]
       simp only [Array.getD_eq_getD_getElem?, xg, xh, xi, Option.getD_some, hr, Result.andThen_ok, Oper.upon]
       refine hK.out _ _ trivial (fun hHeld => ?_)
       clear hK KK hr
       try simp only [Act.put, xa, xb, xc, xd, xe, xf]
       have Z_4 := Lib.hid hz
       have C_4 := Lib.hid (C_3.out.grown Z_3.out.o2 (.inr (fun k e => by have := HO2L.out k e; have := LC.out; omega)) h3)
       clear Z_3 A_3 C_3 hz h3
       have hHeld : True := trivial
       refine wpAnyH_ready (rs := [14]) (by kernel_rfl) (by simp) ?_
       refine AllReadyH.cons rfl (fun KK hK => ?_) AllReadyH.nil
       clear hHeld
       obtain ⟨y4, d4, v5, hr, hz, h3⟩ := Z_4.out.run4 C_4.out rfl (by omega)
       rw [if_pos (show _ = true by kernel_rfl)]
       unfold Oper.wp execOp
       simp only [resolve, invoke, builtin, Sem.run_bind, Sem.run_pure, Result.andThen_ok, List.map_toArray, List.map_cons, List.map_nil, Act.eval, xa, xb, xc]
       simp only [Array.getD_eq_getD_getElem?, xg, xh, xi, Option.getD_some, hr, Result.andThen_ok, Oper.upon]
       refine hK.out _ _ trivial (fun hHeld => ?_)
       clear hK KK hr
       try simp only [Act.put, xa, xb, xc, xd, xe, xf]
       have Z_5 := Lib.hid hz
       clear Z_4 C_4 hz h3
       have hHeld : True := trivial
       refine wpAnyH_take (i := 15) (v := ?_) rfl (by kernel_rfl) (by kernel_rfl) (by kernel_rfl) (fun _ _ _ h => h) (Or.inl ⟨by kernel_rfl, ?_⟩) hHeld ?_
       rotate_left
       ·intro w hSw
        (try dsimp only at hSw)
        go_split_ands
        go_simp
        (try with_reducible rfl)
       try simp only [Act.put, xa, xb, xc, xd, xe, xf]
       refine wpAnyH_take (i := 16) (v := ?_) rfl (by kernel_rfl) (by kernel_rfl) (by kernel_rfl) (fun _ _ _ h => h) (Or.inl ⟨by kernel_rfl, ?_⟩) hHeld ?_
       rotate_left
       ·intro w hSw
        (try dsimp only at hSw)
        go_split_ands
        go_simp
        (try with_reducible rfl)
       try simp only [Act.put, xa, xb, xc, xd, xe, xf]
       refine wpAnyH_ready (rs := [17]) (by kernel_rfl) (by simp) ?_
       refine AllReadyH.cons rfl (fun KK hK => ?_) AllReadyH.nil
       clear hHeld
       have k0 := Z_5.out.d.cell 2
       have f0 := Z_5.out.d.frozen 2
       simp only [xg, xh, xi] at k0
       go_simp
       refine hK.out _ _ trivial (fun hHeld => ?_)
       clear hK KK k0 f0 hHeld
       try simp only [Act.put, xa, xb, xc, xd, xe, xf]
       refine anyH_world (fun wz => FX w4 wr wz B D Wb la lc cb _ _ _ _ _ _ _ _) (Z_5.out.st2 (.slice y2 (i + 1) d2)) ?_
       rintro v6 hz
       have Z_6 := Lib.hid hz
       clear hz Z_5
       have hHeld : True := trivial
       refine wpAnyH_take (i := 18) (v := ?_) rfl (by kernel_rfl) (by kernel_rfl) (by kernel_rfl) (fun _ _ _ h => h) (Or.inl ⟨by kernel_rfl, ?_⟩) hHeld ?_
       rotate_left
       ·intro w hSw
        (try dsimp only at hSw)
        go_split_ands
        go_simp
        (try with_reducible rfl)
       try simp only [Act.put, xa, xb, xc, xd, xe, xf]
       refine wpAnyH_take (i := 19) (v := ?_) rfl (by kernel_rfl) (by kernel_rfl) (by kernel_rfl) (fun _ _ _ h => h) (Or.inl ⟨by kernel_rfl, ?_⟩) hHeld ?_
       rotate_left
       ·intro w hSw
        (try dsimp only at hSw)
        go_split_ands
        go_simp
        (try with_reducible rfl)
       try simp only [Act.put, xa, xb, xc, xd, xe, xf]
       refine wpAnyH_ready (rs := [20]) (by kernel_rfl) (by simp) ?_
       refine AllReadyH.cons rfl (fun KK hK => ?_) AllReadyH.nil
       clear hHeld
       have k0 := Z_6.out.d.cell 4
       have f0 := Z_6.out.d.frozen 4
       simp only [xg, xh, xi] at k0
       go_simp
       refine hK.out _ _ trivial (fun hHeld => ?_)
       clear hK KK k0 f0 hHeld
       try simp only [Act.put, xa, xb, xc, xd, xe, xf]
       refine anyH_world (fun wz => FX w4 wr wz B D Wb la lc cb _ _ _ _ _ _ _ _) (Z_6.out.st4 (.slice y4 (i + 1) d4)) ?_
       rintro v7 hz
       have Z_7 := Lib.hid hz
       clear hz Z_6
       have hHeld : True := trivial
       refine wpAnyH_done (by kernel_rfl) ?_ _
       clear hHeld
       go_wp2_with fail
       refine ⟨⟨i + 1, rfl, by omega, Lib.hid (fix_end Z_7.out.k Z_7.out.d Z_7.out.o2 Z_7.out.o4)⟩, by simp [intOf]; omega⟩
    ·clear hHeld
     have k0 := Z_2.out.d.cell 4
     simp only [xg, xh, xi] at k0
     go_simp
     refine hK.out _ _ trivial (fun hHeld => ?_)
     clear hK KK k0
     try simp only [Act.put, xa, xb, xc, xd, xe, xf]
     refine wpAnyH_ready (rs := [5, 13]) (by kernel_rfl) (by simp) ?_
     refine AllReadyH.cons rfl (fun KK hK => ?_) (AllReadyH.cons rfl (fun KK hK => ?_) AllReadyH.nil)
     ·clear hHeld
      have k0 := Z_2.out.d.cell 2
      simp only [xg, xh, xi] at k0
      go_simp
      refine hK.out _ _ trivial (fun hHeld => ?_)
      clear hK KK k0
      try simp only [Act.put, xa, xb, xc, xd, xe, xf]
      refine wpAnyH_ready (rs := [7, 13]) (by kernel_rfl) (by simp) ?_
      refine AllReadyH.cons rfl (fun KK hK => ?_) (AllReadyH.cons rfl (fun KK hK => ?_) AllReadyH.nil)
      ·clear hHeld
       obtain ⟨y2, d2, v3, hr, hz, h3⟩ := Z_2.out.run2 A_2.out rfl (by omega)
       rw [if_pos (show _ = true by kernel_rfl)]
       unfold Oper.wp execOp
       simp only [resolve, invoke, builtin, Sem.run_bind, Sem.run_pure, Result.andThen_ok, List.map_toArray, List.map_cons, List.map_nil, Act.eval, xa, xb, xc]
       simp only [Array.getD_eq_getD_getElem?, xg, xh, xi, Option.getD_some, hr, Result.andThen_ok, Oper.upon]
       refine hK.out _ _ trivial (fun hHeld => ?_)
       clear hK KK hr
       try simp only [Act.put, xa, xb, xc, xd, xe, xf]
       have Z_3 := Lib.hid hz
       clear Z_2 A_2 hz h3
       have hHeld : True := trivial
       refine wpAnyH_ready (rs := [13]) (by kernel_rfl) (by simp) ?_
       refine AllReadyH.cons rfl (fun KK hK => ?_) AllReadyH.nil
       clear hHeld
       go_simp
       refine hK.out _ _ trivial (fun hHeld => ?_)
       clear hK KK hHeld
       try simp only [Act.put, xa, xb, xc, xd, xe, xf]
       refine anyH_world (fun wz => Ext v3 wz ∧ Bk wz v3.heap.size #[.int .u32 (i : Int)]) ⟨(Ext.refl v3).alloc _, Bk.at rfl⟩ ?_
       rintro v4 ⟨hE, hB⟩
       obtain ⟨Cb, hb⟩ : ∃ q, v3.heap.size = q := ⟨_, rfl⟩
       rw [hb] at hB
       try rw [hb]
       have LC := Lib.hid (show wr.heap.size ≤ Cb from hb ▸ Z_3.out.sz)
       have Z_4 := Lib.hid (Z_3.out.ext hE)
       clear hE hb Z_3
       have C_4 := Lib.hid (hB)
       clear hB
       have hHeld : True := trivial
       refine wpAnyH_ready (rs := [14]) (by kernel_rfl) (by simp) ?_
       refine AllReadyH.cons rfl (fun KK hK => ?_) AllReadyH.nil
       clear hHeld
       obtain ⟨y4, d4, v5, hr, hz, h3⟩ := Z_4.out.run4 C_4.out rfl (by omega)
       rw [if_pos (show _ = true by kernel_rfl)]
       unfold Oper.wp execOp
       simp only [resolve, invoke, builtin, Sem.run_bind, Sem.run_pure, Result.andThen_ok, List.map_toArray, List.map_cons, List.map_nil, Act.eval, xa, xb, xc]
       simp only [Array.getD_eq_getD_getElem?, xg, xh, xi, Option.getD_some, hr, Result.andThen_ok, Oper.upon]
       refine hK.out _ _ trivial (fun hHeld => ?_)
       clear hK KK hr
       try simp only [Act.put, xa, xb, xc, xd, xe, xf]
       have Z_5 := Lib.hid hz
       clear Z_4 C_4 hz h3
       have hHeld : True := trivial
       refine wpAnyH_take (i := 15) (v := ?_) rfl (by kernel_rfl) (by kernel_rfl) (by kernel_rfl) (fun _ _ _ h => h) (Or.inl ⟨by kernel_rfl, ?_⟩) hHeld ?_
       rotate_left
       ·intro w hSw
        (try dsimp only at hSw)
        go_split_ands
        go_simp
        (try with_reducible rfl)
       try simp only [Act.put, xa, xb, xc, xd, xe, xf]
       refine wpAnyH_take (i := 16) (v := ?_) rfl (by kernel_rfl) (by kernel_rfl) (by kernel_rfl) (fun _ _ _ h => h) (Or.inl ⟨by kernel_rfl, ?_⟩) hHeld ?_
       rotate_left
       ·intro w hSw
        (try dsimp only at hSw)
        go_split_ands
        go_simp
        (try with_reducible rfl)
       try simp only [Act.put, xa, xb, xc, xd, xe, xf]
       refine wpAnyH_ready (rs := [17]) (by kernel_rfl) (by simp) ?_
       refine AllReadyH.cons rfl (fun KK hK => ?_) AllReadyH.nil
       clear hHeld
       have k0 := Z_5.out.d.cell 2
       have f0 := Z_5.out.d.frozen 2
       simp only [xg, xh, xi] at k0
       go_simp
       refine hK.out _ _ trivial (fun hHeld => ?_)
       clear hK KK k0 f0 hHeld
       try simp only [Act.put, xa, xb, xc, xd, xe, xf]
       refine anyH_world (fun wz => FX w4 wr wz B D Wb la lc cb _ _ _ _ _ _ _ _) (Z_5.out.st2 (.slice y2 (i + 1) d2)) ?_
       rintro v6 hz
       have Z_6 := Lib.hid hz
       clear hz Z_5
       have hHeld : True := trivial
       refine wpAnyH_take (i := 18) (v := ?_) rfl (by kernel_rfl) (by kernel_rfl) (by kernel_rfl) (fun _ _ _ h => h) (Or.inl ⟨by kernel_rfl, ?_⟩) hHeld ?_
       rotate_left
       ·intro w hSw
        (try dsimp only at hSw)
        go_split_ands
        go_simp
        (try with_reducible rfl)
       try simp only [Act.put, xa, xb, xc, xd, xe, xf]
       refine wpAnyH_take (i := 19) (v := ?_) rfl (by kernel_rfl) (by kernel_rfl) (by kernel_rfl) (fun _ _ _ h => h) (Or.inl ⟨by kernel_rfl, ?_⟩) hHeld ?_
       rotate_left
       ·intro w hSw
        (try dsimp only at hSw)
        go_split_ands
        go_simp
        (try with_reducible rfl)
       try simp only [Act.put, xa, xb, xc, xd, xe, xf]
       refine wpAnyH_ready (rs := [20]) (by kernel_rfl) (by simp) ?_
       refine AllReadyH.cons rfl (fun KK hK => ?_) AllReadyH.nil
       clear hHeld
       have k0 := Z_6.out.d.cell 4
       have f0 := Z_6.out.d.frozen 4
       simp only [xg, xh, xi] at k0
       go_simp
       refine hK.out _ _ trivial (fun hHeld => ?_)
       clear hK KK k0 f0 hHeld
       try simp only [Act.put, xa, xb, xc, xd, xe, xf]
       refine anyH_world (fun wz => FX w4 wr wz B D Wb la lc cb _ _ _ _ _ _ _ _) (Z_6.out.st4 (.slice y4 (i + 1) d4)) ?_
       rintro v7 hz
       have Z_7 := Lib.hid hz
       clear hz Z_6
       have hHeld : True := trivial
       refine wpAnyH_done (by kernel_rfl) ?_ _
       clear hHeld
       go_wp2_with fail
       refine ⟨⟨i + 1, rfl, by omega, Lib.hid (fix_end Z_7.out.k Z_7.out.d Z_7.out.o2 Z_7.out.o4)⟩, by simp [intOf]; omega⟩
      ·clear hHeld
       go_simp
       refine hK.out _ _ trivial (fun hHeld => ?_)
       clear hK KK hHeld
       try simp only [Act.put, xa, xb, xc, xd, xe, xf]
       refine anyH_world (fun wz => Ext v2 wz ∧ Bk wz v2.heap.size #[.int .u32 (i : Int)]) ⟨(Ext.refl v2).alloc _, Bk.at rfl⟩ ?_
       rintro v3 ⟨hE, hB⟩
       obtain ⟨Cb, hb⟩ : ∃ q, v2.heap.size = q := ⟨_, rfl⟩
       rw [hb] at hB
       try rw [hb]
       have LC := Lib.hid (show wr.heap.size ≤ Cb from hb ▸ Z_2.out.sz)
       have Z_3 := Lib.hid (Z_2.out.ext hE)
       have A_3 := Lib.hid (A_2.out.ext hE)
       clear hE hb Z_2 A_2
       have C_3 := Lib.hid (hB)
       clear hB
       have hHeld : True := trivial
       refine wpAnyH_ready (rs := [7]) (by kernel_rfl) (by simp) ?_
       refine AllReadyH.cons rfl (fun KK hK => ?_) AllReadyH.nil
       clear hHeld
       obtain ⟨y2, d2, v4, hr, hz, h3⟩ := Z_3.out.run2 A_3.out rfl (by omega)
       rw [if_pos (show _ = true by kernel_rfl)]
       unfold Oper.wp execOp
       simp only [resolve, invoke, builtin, Sem.run_bind, Sem.run_pure, Result.andThen_ok, List.map_toArray, List.map_cons, List.map_nil, Act.eval, xa, xb, xc]
       simp only [Array.getD_eq_getD_getElem?, xg, xh, xi, Option.getD_some, hr, Result.andThen_ok, Oper.upon]
       refine hK.out _ _ trivial (fun hHeld => ?_)
       clear hK KK hr
       try simp only [Act.put, xa, xb, xc, xd, xe, xf]
       have Z_4 := Lib.hid hz
       have C_4 := Lib.hid (C_3.out.grown Z_3.out.o2 (.inr (fun k e => by have := HO2L.out k e; have := LC.out; omega)) h3)
       clear Z_3 A_3 C_3 hz h3
       have hHeld : True := trivial
       refine wpAnyH_ready (rs := [14]) (by kernel_rfl) (by simp) ?_
       refine AllReadyH.cons rfl (fun KK hK => ?_) AllReadyH.nil
       clear hHeld
       obtain ⟨y4, d4, v5, hr, hz, h3⟩ := Z_4.out.run4 C_4.out rfl (by omega)
       rw [if_pos (show _ = true by kernel_rfl)]
       unfold Oper.wp execOp
       simp only [resolve, invoke, builtin, Sem.run_bind, Sem.run_pure, Result.andThen_ok, List.map_toArray, List.map_cons, List.map_nil, Act.eval, xa, xb, xc]
       simp only [Array.getD_eq_getD_getElem?, xg, xh, xi, Option.getD_some, hr, Result.andThen_ok, Oper.upon]
       refine hK.out _ _ trivial (fun hHeld => ?_)
       clear hK KK hr
       try simp only [Act.put, xa, xb, xc, xd, xe, xf]
       have Z_5 := Lib.hid hz
       clear Z_4 C_4 hz h3
       have hHeld : True := trivial
       refine wpAnyH_take (i := 15) (v := ?_) rfl (by kernel_rfl) (by kernel_rfl) (by kernel_rfl) (fun _ _ _ h => h) (Or.inl ⟨by kernel_rfl, ?_⟩) hHeld ?_
       rotate_left
       ·intro w hSw
        (try dsimp only at hSw)
        go_split_ands
        go_simp
        (try with_reducible rfl)
       try simp only [Act.put, xa, xb, xc, xd, xe, xf]
       refine wpAnyH_take (i := 16) (v := ?_) rfl (by kernel_rfl) (by kernel_rfl) (by kernel_rfl) (fun _ _ _ h => h) (Or.inl ⟨by kernel_rfl, ?_⟩) hHeld ?_
       rotate_left
       ·intro w hSw
        (try dsimp only at hSw)
        go_split_ands
        go_simp
        (try with_reducible rfl)
       try simp only [Act.put, xa, xb, xc, xd, xe, xf]
       refine wpAnyH_ready (rs := [17]) (by kernel_rfl) (by simp) ?_
       refine AllReadyH.cons rfl (fun KK hK => ?_) AllReadyH.nil
       clear hHeld
       have k0 := Z_5.out.d.cell 2
       have f0 := Z_5.out.d.frozen 2
       simp only [xg, xh, xi] at k0
       go_simp
       refine hK.out _ _ trivial (fun hHeld => ?_)
       clear hK KK k0 f0 hHeld
       try simp only [Act.put, xa, xb, xc, xd, xe, xf]
       refine anyH_world (fun wz => FX w4 wr wz B D Wb la lc cb _ _ _ _ _ _ _ _) (Z_5.out.st2 (.slice y2 (i + 1) d2)) ?_
       rintro v6 hz
       have Z_6 := Lib.hid hz
       clear hz Z_5
       have hHeld : True := trivial
       refine wpAnyH_take (i := 18) (v := ?_) rfl (by kernel_rfl) (by kernel_rfl) (by kernel_rfl) (fun _ _ _ h => h) (Or.inl ⟨by kernel_rfl, ?_⟩) hHeld ?_
       rotate_left
       ·intro w hSw
        (try dsimp only at hSw)
        go_split_ands
        go_simp
        (try with_reducible rfl)
       try simp only [Act.put, xa, xb, xc, xd, xe, xf]
       refine wpAnyH_take (i := 19) (v := ?_) rfl (by kernel_rfl) (by kernel_rfl) (by kernel_rfl) (fun _ _ _ h => h) (Or.inl ⟨by kernel_rfl, ?_⟩) hHeld ?_
       rotate_left
       ·intro w hSw
        (try dsimp only at hSw)
        go_split_ands
        go_simp
        (try with_reducible rfl)
       try simp only [Act.put, xa, xb, xc, xd, xe, xf]
       refine wpAnyH_ready (rs := [20]) (by kernel_rfl) (by simp) ?_
       refine AllReadyH.cons rfl (fun KK hK => ?_) AllReadyH.nil
       clear hHeld
       have k0 := Z_6.out.d.cell 4
       have f0 := Z_6.out.d.frozen 4
       simp only [xg, xh, xi] at k0
       go_simp
       refine hK.out _ _ trivial (fun hHeld => ?_)
       clear hK KK k0 f0 hHeld
       try simp only [Act.put, xa, xb, xc, xd, xe, xf]
       refine anyH_world (fun wz => FX w4 wr wz B D Wb la lc cb _ _ _ _ _ _ _ _) (Z_6.out.st4 (.slice y4 (i + 1) d4)) ?_
       rintro v7 hz
       have Z_7 := Lib.hid hz
       clear hz Z_6
       have hHeld : True := trivial
       refine wpAnyH_done (by kernel_rfl) ?_ _
       clear hHeld
       go_wp2_with fail
       refine ⟨⟨i + 1, rfl, by omega, Lib.hid (fix_end Z_7.out.k Z_7.out.d Z_7.out.o2 Z_7.out.o4)⟩, by simp [intOf]; omega⟩
     ·clear hHeld
      go_simp
      refine hK.out _ _ trivial (fun hHeld => ?_)
      clear hK KK hHeld
      try simp only [Act.put, xa, xb, xc, xd, xe, xf]
      refine anyH_world (fun wz => Ext v2 wz ∧ Bk wz v2.heap.size #[.int .u32 (i : Int)]) ⟨(Ext.refl v2).alloc _, Bk.at rfl⟩ ?_
      rintro v3 ⟨hE, hB⟩
      obtain ⟨Cb, hb⟩ : ∃ q, v2.heap.size = q := ⟨_, rfl⟩
      rw [hb] at hB
      try rw [hb]
      have LC := Lib.hid (show wr.heap.size ≤ Cb from hb ▸ Z_2.out.sz)
      have Z_3 := Lib.hid (Z_2.out.ext hE)
      have A_3 := Lib.hid (A_2.out.ext hE)
      clear hE hb Z_2 A_2
      have C_3 := Lib.hid (hB)
      clear hB
      have hHeld : True := trivial
      refine wpAnyH_ready (rs := [5]) (by kernel_rfl) (by simp) ?_
      refine AllReadyH.cons rfl (fun KK hK => ?_) AllReadyH.nil
      clear hHeld
      have k0 := Z_3.out.d.cell 2
      simp only [xg, xh, xi] at k0
      go_simp
      refine hK.out _ _ trivial (fun hHeld => ?_)
      clear hK KK k0
      try simp only [Act.put, xa, xb, xc, xd, xe, xf]
      refine wpAnyH_ready (rs := [7]) (by kernel_rfl) (by simp) ?_
      refine AllReadyH.cons rfl (fun KK hK => ?_) AllReadyH.nil
      clear hHeld
      obtain ⟨y2, d2, v4, hr, hz, h3⟩ := Z_3.out.run2 A_3.out rfl (by omega)
      rw [if_pos (show _ = true by kernel_rfl)]
      unfold Oper.wp execOp
      simp only [resolve, invoke, builtin, Sem.run_bind, Sem.run_pure, Result.andThen_ok, List.map_toArray, List.map_cons, List.map_nil, Act.eval, xa, xb, xc]
      simp only [Array.getD_eq_getD_getElem?, xg, xh, xi, Option.getD_some, hr, Result.andThen_ok, Oper.upon]
      refine hK.out _ _ trivial (fun hHeld => ?_)
      clear hK KK hr
      try simp only [Act.put, xa, xb, xc, xd, xe, xf]
      have Z_4 := Lib.hid hz
      have C_4 := Lib.hid (C_3.out.grown Z_3.out.o2 (.inr (fun k e => by have := HO2L.out k e; have := LC.out; omega)) h3)
      clear Z_3 A_3 C_3 hz h3
      have hHeld : True := trivial
      refine wpAnyH_ready (rs := [14]) (by kernel_rfl) (by simp) ?_
      refine AllReadyH.cons rfl (fun KK hK => ?_) AllReadyH.nil
      clear hHeld
      obtain ⟨y4, d4, v5, hr, hz, h3⟩ := Z_4.out.run4 C_4.out rfl (by omega)
      rw [if_pos (show _ = true by kernel_rfl)]
      unfold Oper.wp execOp
      simp only [resolve, invoke, builtin, Sem.run_bind, Sem.run_pure, Result.andThen_ok, List.map_toArray, List.map_cons, List.map_nil, Act.eval, xa, xb, xc]
      simp only [Array.getD_eq_getD_getElem?, xg, xh, xi, Option.getD_some, hr, Result.andThen_ok, Oper.upon]
      refine hK.out _ _ trivial (fun hHeld => ?_)
      clear hK KK hr
      try simp only [Act.put, xa, xb, xc, xd, xe, xf]
      have Z_5 := Lib.hid hz
      clear Z_4 C_4 hz h3
      have hHeld : True := trivial
      refine wpAnyH_take (i := 15) (v := ?_) rfl (by kernel_rfl) (by kernel_rfl) (by kernel_rfl) (fun _ _ _ h => h) (Or.inl ⟨by kernel_rfl, ?_⟩) hHeld ?_
      rotate_left
      ·intro w hSw
       (try dsimp only at hSw)
       go_split_ands
       go_simp
       (try with_reducible rfl)
      try simp only [Act.put, xa, xb, xc, xd, xe, xf]
      refine wpAnyH_take (i := 16) (v := ?_) rfl (by kernel_rfl) (by kernel_rfl) (by kernel_rfl) (fun _ _ _ h => h) (Or.inl ⟨by kernel_rfl, ?_⟩) hHeld ?_
      rotate_left
      ·intro w hSw
       (try dsimp only at hSw)
       go_split_ands
       go_simp
       (try with_reducible rfl)
      try simp only [Act.put, xa, xb, xc, xd, xe, xf]
      refine wpAnyH_ready (rs := [17]) (by kernel_rfl) (by simp) ?_
      refine AllReadyH.cons rfl (fun KK hK => ?_) AllReadyH.nil
      clear hHeld
      have k0 := Z_5.out.d.cell 2
      have f0 := Z_5.out.d.frozen 2
      simp only [xg, xh, xi] at k0
      go_simp
      refine hK.out _ _ trivial (fun hHeld => ?_)
      clear hK KK k0 f0 hHeld
      try simp only [Act.put, xa, xb, xc, xd, xe, xf]
      refine anyH_world (fun wz => FX w4 wr wz B D Wb la lc cb _ _ _ _ _ _ _ _) (Z_5.out.st2 (.slice y2 (i + 1) d2)) ?_
      rintro v6 hz
      have Z_6 := Lib.hid hz
      clear hz Z_5
      have hHeld : True := trivial
      refine wpAnyH_take (i := 18) (v := ?_) rfl (by kernel_rfl) (by kernel_rfl) (by kernel_rfl) (fun _ _ _ h => h) (Or.inl ⟨by kernel_rfl, ?_⟩) hHeld ?_
      rotate_left
      ·intro w hSw
       (try dsimp only at hSw)
       go_split_ands
       go_simp
       (try with_reducible rfl)
      try simp only [Act.put, xa, xb, xc, xd, xe, xf]
      refine wpAnyH_take (i := 19) (v := ?_) rfl (by kernel_rfl) (by kernel_rfl) (by kernel_rfl) (fun _ _ _ h => h) (Or.inl ⟨by kernel_rfl, ?_⟩) hHeld ?_
      rotate_left
      ·intro w hSw
       (try dsimp only at hSw)
       go_split_ands
       go_simp
       (try with_reducible rfl)
      try simp only [Act.put, xa, xb, xc, xd, xe, xf]
      refine wpAnyH_ready (rs := [20]) (by kernel_rfl) (by simp) ?_
      refine AllReadyH.cons rfl (fun KK hK => ?_) AllReadyH.nil
      clear hHeld
      have k0 := Z_6.out.d.cell 4
      have f0 := Z_6.out.d.frozen 4
      simp only [xg, xh, xi] at k0
      go_simp
      refine hK.out _ _ trivial (fun hHeld => ?_)
      clear hK KK k0 f0 hHeld
      try simp only [Act.put, xa, xb, xc, xd, xe, xf]
      refine anyH_world (fun wz => FX w4 wr wz B D Wb la lc cb _ _ _ _ _ _ _ _) (Z_6.out.st4 (.slice y4 (i + 1) d4)) ?_
      rintro v7 hz
      have Z_7 := Lib.hid hz
      clear hz Z_6
      have hHeld : True := trivial
      refine wpAnyH_done (by kernel_rfl) ?_ _
      clear hHeld
      go_wp2_with fail
      refine ⟨⟨i + 1, rfl, by omega, Lib.hid (fix_end Z_7.out.k Z_7.out.d Z_7.out.o2 Z_7.out.o4)⟩, by simp [intOf]; omega⟩
    ·clear hHeld
     go_simp
     refine hK.out _ _ trivial (fun hHeld => ?_)
     clear hK KK hHeld
     try simp only [Act.put, xa, xb, xc, xd, xe, xf]
     refine anyH_world (fun wz => Ext v2 wz ∧ Bk wz v2.heap.size #[.int .u32 (i : Int)]) ⟨(Ext.refl v2).alloc _, Bk.at rfl⟩ ?_
     rintro v3 ⟨hE, hB⟩
     obtain ⟨Cb, hb⟩ : ∃ q, v2.heap.size = q := ⟨_, rfl⟩
     rw [hb] at hB
     try rw [hb]
     have LC := Lib.hid (show wr.heap.size ≤ Cb from hb ▸ Z_2.out.sz)
     have Z_3 := Lib.hid (Z_2.out.ext hE)
     have A_3 := Lib.hid (A_2.out.ext hE)
     clear hE hb Z_2 A_2
     have C_3 := Lib.hid (hB)
     clear hB
     have hHeld : True := trivial
     refine wpAnyH_ready (rs := [5, 11]) (by kernel_rfl) (by simp) ?_
     refine AllReadyH.cons rfl (fun KK hK => ?_) (AllReadyH.cons rfl (fun KK hK => ?_) AllReadyH.nil)
     ·clear hHeld
      have k0 := Z_3.out.d.cell 2
      simp only [xg, xh, xi] at k0
      go_simp
      refine hK.out _ _ trivial (fun hHeld => ?_)
      clear hK KK k0
      try simp only [Act.put, xa, xb, xc, xd, xe, xf]
      refine wpAnyH_ready (rs := [7, 11]) (by kernel_rfl) (by simp) ?_
      refine AllReadyH.cons rfl (fun KK hK => ?_) (AllReadyH.cons rfl (fun KK hK => ?_) AllReadyH.nil)
      ·clear hHeld
       obtain ⟨y2, d2, v4, hr, hz, h3⟩ := Z_3.out.run2 A_3.out rfl (by omega)
       rw [if_pos (show _ = true by kernel_rfl)]
       unfold Oper.wp execOp
       simp only [resolve, invoke, builtin, Sem.run_bind, Sem.run_pure, Result.andThen_ok, List.map_toArray, List.map_cons, List.map_nil, Act.eval, xa, xb, xc]
       simp only [Array.getD_eq_getD_getElem?, xg, xh, xi, Option.getD_some, hr, Result.andThen_ok, Oper.upon]
       refine hK.out _ _ trivial (fun hHeld => ?_)
       clear hK KK hr
       try simp only [Act.put, xa, xb, xc, xd, xe, xf]
       have Z_4 := Lib.hid hz
       have C_4 := Lib.hid (C_3.out.grown Z_3.out.o2 (.inr (fun k e => by have := HO2L.out k e; have := LC.out; omega)) h3)
       clear Z_3 A_3 C_3 hz h3
       have hHeld : True := trivial
       refine wpAnyH_ready (rs := [11]) (by kernel_rfl) (by simp) ?_
       refine AllReadyH.cons rfl (fun KK hK => ?_) AllReadyH.nil
       clear hHeld
       have k0 := Z_4.out.d.cell 4
       simp only [xg, xh, xi] at k0
       go_simp
       refine hK.out _ _ trivial (fun hHeld => ?_)
       clear hK KK k0
       try simp only [Act.put, xa, xb, xc, xd, xe, xf]
       refine wpAnyH_ready (rs := [14]) (by kernel_rfl) (by simp) ?_
       refine AllReadyH.cons rfl (fun KK hK => ?_) AllReadyH.nil
       clear hHeld
       obtain ⟨y4, d4, v5, hr, hz, h3⟩ := Z_4.out.run4 C_4.out rfl (by omega)
       rw [if_pos (show _ = true by kernel_rfl)]
       unfold Oper.wp execOp
       simp only [resolve, invoke, builtin, Sem.run_bind, Sem.run_pure, Result.andThen_ok, List.map_toArray, List.map_cons, List.map_nil, Act.eval, xa, xb, xc]
       simp only [Array.getD_eq_getD_getElem?, xg, xh, xi, Option.getD_some, hr, Result.andThen_ok, Oper.upon]
       refine hK.out _ _ trivial (fun hHeld => ?_)
       clear hK KK hr
       try simp only [Act.put, xa, xb, xc, xd, xe, xf]
       have Z_5 := Lib.hid hz
       clear Z_4 C_4 hz h3
       have hHeld : True := trivial
       refine wpAnyH_take (i := 15) (v := ?_) rfl (by kernel_rfl) (by kernel_rfl) (by kernel_rfl) (fun _ _ _ h => h) (Or.inl ⟨by kernel_rfl, ?_⟩) hHeld ?_
       rotate_left
       ·intro w hSw
        (try dsimp only at hSw)
        go_split_ands
        go_simp
        (try with_reducible rfl)
       try simp only [Act.put, xa, xb, xc, xd, xe, xf]
       refine wpAnyH_take (i := 16) (v := ?_) rfl (by kernel_rfl) (by kernel_rfl) (by kernel_rfl) (fun _ _ _ h => h) (Or.inl ⟨by kernel_rfl, ?_⟩) hHeld ?_
       rotate_left
       ·intro w hSw
        (try dsimp only at hSw)
        go_split_ands
        go_simp
        (try with_reducible rfl)
       try simp only [Act.put, xa, xb, xc, xd, xe, xf]
       refine wpAnyH_ready (rs := [17]) (by kernel_rfl) (by simp) ?_
       refine AllReadyH.cons rfl (fun KK hK => ?_) AllReadyH.nil
       clear hHeld
       have k0 := Z_5.out.d.cell 2
       have f0 := Z_5.out.d.frozen 2
       simp only [xg, xh, xi] at k0
       go_simp
       refine hK.out _ _ trivial (fun hHeld => ?_)
       clear hK KK k0 f0 hHeld
       try simp only [Act.put, xa, xb, xc, xd, xe, xf]
       refine anyH_world (fun wz => FX w4 wr wz B D Wb la lc cb _ _ _ _ _ _ _ _) (Z_5.out.st2 (.slice y2 (i + 1) d2)) ?_
       rintro v6 hz
       have Z_6 := Lib.hid hz
       clear hz Z_5
       have hHeld : True := trivial
       refine wpAnyH_take (i := 18) (v := ?_) rfl (by kernel_rfl) (by kernel_rfl) (by kernel_rfl) (fun _ _ _ h => h) (Or.inl ⟨by kernel_rfl, ?_⟩) hHeld ?_
       rotate_left
       ·intro w hSw
        (try dsimp only at hSw)
        go_split_ands
        go_simp
        (try with_reducible rfl)
       try simp only [Act.put, xa, xb, xc, xd, xe, xf]
       refine wpAnyH_take (i := 19) (v := ?_) rfl (by kernel_rfl) (by kernel_rfl) (by kernel_rfl) (fun _ _ _ h => h) (Or.inl ⟨by kernel_rfl, ?_⟩) hHeld ?_
       rotate_left
       ·intro w hSw
        (try dsimp only at hSw)
        go_split_ands
        go_simp
        (try with_reducible rfl)
       try simp only [Act.put, xa, xb, xc, xd, xe, xf]
       refine wpAnyH_ready (rs := [20]) (by kernel_rfl) (by simp) ?_
       refine AllReadyH.cons rfl (fun KK hK => ?_) AllReadyH.nil
       clear hHeld
       have k0 := Z_6.out.d.cell 4
       have f0 := Z_6.out.d.frozen 4
       simp only [xg, xh, xi] at k0
       go_simp
       refine hK.out _ _ trivial (fun hHeld => ?_)
       clear hK KK k0 f0 hHeld
       try simp only [Act.put, xa, xb, xc, xd, xe, xf]
       refine anyH_world (fun wz => FX w4 wr wz B D Wb la lc cb _ _ _ _ _ _ _ _) (Z_6.out.st4 (.slice y4 (i + 1) d4)) ?_
       rintro v7 hz
       have Z_7 := Lib.hid hz
       clear hz Z_6
       have hHeld : True := trivial
       refine wpAnyH_done (by kernel_rfl) ?_ _
       clear hHeld
       go_wp2_with fail
       refine ⟨⟨i + 1, rfl, by omega, Lib.hid (fix_end Z_7.out.k Z_7.out.d Z_7.out.o2 Z_7.out.o4)⟩, by simp [intOf]; omega⟩
      ·clear hHeld
       have k0 := Z_3.out.d.cell 4
       simp only [xg, xh, xi] at k0
       go_simp
       refine hK.out _ _ trivial (fun hHeld => ?_)
       clear hK KK k0
       try simp only [Act.put, xa, xb, xc, xd, xe, xf]
       refine wpAnyH_ready (rs := [7]) (by kernel_rfl) (by simp) ?_
       refine AllReadyH.cons rfl (fun KK hK => ?_) AllReadyH.nil
       clear hHeld
       obtain ⟨y2, d2, v4, hr, hz, h3⟩ := Z_3.out.run2 A_3.out rfl (by omega)
       rw [if_pos (show _ = true by kernel_rfl)]
       unfold Oper.wp execOp
       simp only [resolve, invoke, builtin, Sem.run_bind, Sem.run_pure, Result.andThen_ok, List.map_toArray, List.map_cons, List.map_nil, Act.eval, xa, xb, xc]
       simp only [Array.getD_eq_getD_getElem?, xg, xh, xi, Option.getD_some, hr, Result.andThen_ok, Oper.upon]
       refine hK.out _ _ trivial (fun hHeld => ?_)
       clear hK KK hr
       try simp only [Act.put, xa, xb, xc, xd, xe, xf]
       have Z_4 := Lib.hid hz
       have C_4 := Lib.hid (C_3.out.grown Z_3.out.o2 (.inr (fun k e => by have := HO2L.out k e; have := LC.out; omega)) h3)
       clear Z_3 A_3 C_3 hz h3
       have hHeld : True := trivial
       refine wpAnyH_ready (rs := [14]) (by kernel_rfl) (by simp) ?_
       refine AllReadyH.cons rfl (fun KK hK => ?_) AllReadyH.nil
       clear hHeld
       obtain ⟨y4, d4, v5, hr, hz, h3⟩ := Z_4.out.run4 C_4.out rfl (by omega)
       rw [if_pos (show _ = true by kernel_rfl)]
       unfold Oper.wp execOp
       simp only [resolve, invoke, builtin, Sem.run_bind, Sem.run_pure, Result.andThen_ok, List.map_toArray, List.map_cons, List.map_nil, Act.eval, xa, xb, xc]
       simp only [Array.getD_eq_getD_getElem?, xg, xh, xi, Option.getD_some, hr, Result.andThen_ok, Oper.upon]
       refine hK.out _ _ trivial (fun hHeld => ?_)
       clear hK KK hr
       try simp only [Act.put, xa, xb, xc, xd, xe, xf]
       have Z_5 := Lib.hid hz
       clear Z_4 C_4 hz h3
       have hHeld : True := trivial
       refine wpAnyH_take (i := 15) (v := ?_) rfl (by kernel_rfl) (by kernel_rfl) (by kernel_rfl) (fun _ _ _ h => h) (Or.inl ⟨by kernel_rfl, ?_⟩) hHeld ?_
       rotate_left
       ·intro w hSw
        (try dsimp only at hSw)
        go_split_ands
        go_simp
        (try with_reducible rfl)
       try simp only [Act.put, xa, xb, xc, xd, xe, xf]
       refine wpAnyH_take (i := 16) (v := ?_) rfl (by kernel_rfl) (by kernel_rfl) (by kernel_rfl) (fun _ _ _ h => h) (Or.inl ⟨by kernel_rfl, ?_⟩) hHeld ?_
       rotate_left
       ·intro w hSw
        (try dsimp only at hSw)
        go_split_ands
        go_simp
        (try with_reducible rfl)
       try simp only [Act.put, xa, xb, xc, xd, xe, xf]
       refine wpAnyH_ready (rs := [17]) (by kernel_rfl) (by simp) ?_
       refine AllReadyH.cons rfl (fun KK hK => ?_) AllReadyH.nil
       clear hHeld
       have k0 := Z_5.out.d.cell 2
       have f0 := Z_5.out.d.frozen 2
       simp only [xg, xh, xi] at k0
       go_simp
       refine hK.out _ _ trivial (fun hHeld => ?_)
       clear hK KK k0 f0 hHeld
       try simp only [Act.put, xa, xb, xc, xd, xe, xf]
       refine anyH_world (fun wz => FX w4 wr wz B D Wb la lc cb _ _ _ _ _ _ _ _) (Z_5.out.st2 (.slice y2 (i + 1) d2)) ?_
       rintro v6 hz
       have Z_6 := Lib.hid hz
       clear hz Z_5
       have hHeld : True := trivial
       refine wpAnyH_take (i := 18) (v := ?_) rfl (by kernel_rfl) (by kernel_rfl) (by kernel_rfl) (fun _ _ _ h => h) (Or.inl ⟨by kernel_rfl, ?_⟩) hHeld ?_
       rotate_left
       ·intro w hSw
        (try dsimp only at hSw)
        go_split_ands
        go_simp
        (try with_reducible rfl)
       try simp only [Act.put, xa, xb, xc, xd, xe, xf]
       refine wpAnyH_take (i := 19) (v := ?_) rfl (by kernel_rfl) (by kernel_rfl) (by kernel_rfl) (fun _ _ _ h => h) (Or.inl ⟨by kernel_rfl, ?_⟩) hHeld ?_
       rotate_left
       ·intro w hSw
        (try dsimp only at hSw)
        go_split_ands
        go_simp
        (try with_reducible rfl)
       try simp only [Act.put, xa, xb, xc, xd, xe, xf]
       refine wpAnyH_ready (rs := [20]) (by kernel_rfl) (by simp) ?_
       refine AllReadyH.cons rfl (fun KK hK => ?_) AllReadyH.nil
       clear hHeld
       have k0 := Z_6.out.d.cell 4
       have f0 := Z_6.out.d.frozen 4
       simp only [xg, xh, xi] at k0
       go_simp
       refine hK.out _ _ trivial (fun hHeld => ?_)
       clear hK KK k0 f0 hHeld
       try simp only [Act.put, xa, xb, xc, xd, xe, xf]
       refine anyH_world (fun wz => FX w4 wr wz B D Wb la lc cb _ _ _ _ _ _ _ _) (Z_6.out.st4 (.slice y4 (i + 1) d4)) ?_
       rintro v7 hz
       have Z_7 := Lib.hid hz
       clear hz Z_6
       have hHeld : True := trivial
       refine wpAnyH_done (by kernel_rfl) ?_ _
       clear hHeld
       go_wp2_with fail
       refine ⟨⟨i + 1, rfl, by omega, Lib.hid (fix_end Z_7.out.k Z_7.out.d Z_7.out.o2 Z_7.out.o4)⟩, by simp [intOf]; omega⟩
     ·clear hHeld
      have k0 := Z_3.out.d.cell 4
      simp only [xg, xh, xi] at k0
      go_simp
      refine hK.out _ _ trivial (fun hHeld => ?_)
      clear hK KK k0
      try simp only [Act.put, xa, xb, xc, xd, xe, xf]
      refine wpAnyH_ready (rs := [5]) (by kernel_rfl) (by simp) ?_
      refine AllReadyH.cons rfl (fun KK hK => ?_) AllReadyH.nil
      clear hHeld
      have k0 := Z_3.out.d.cell 2
      simp only [xg, xh, xi] at k0
      go_simp
      refine hK.out _ _ trivial (fun hHeld => ?_)
      clear hK KK k0
      try simp only [Act.put, xa, xb, xc, xd, xe, xf]
      refine wpAnyH_ready (rs := [7]) (by kernel_rfl) (by simp) ?_
      refine AllReadyH.cons rfl (fun KK hK => ?_) AllReadyH.nil
      clear hHeld
      obtain ⟨y2, d2, v4, hr, hz, h3⟩ := Z_3.out.run2 A_3.out rfl (by omega)
      rw [if_pos (show _ = true by kernel_rfl)]
      unfold Oper.wp execOp
      simp only [resolve, invoke, builtin, Sem.run_bind, Sem.run_pure, Result.andThen_ok, List.map_toArray, List.map_cons, List.map_nil, Act.eval, xa, xb, xc]
      simp only [Array.getD_eq_getD_getElem?, xg, xh, xi, Option.getD_some, hr, Result.andThen_ok, Oper.upon]
      refine hK.out _ _ trivial (fun hHeld => ?_)
      clear hK KK hr
      try simp only [Act.put, xa, xb, xc, xd, xe, xf]
      have Z_4 := Lib.hid hz
      have C_4 := Lib.hid (C_3.out.grown Z_3.out.o2 (.inr (fun k e => by have := HO2L.out k e; have := LC.out; omega)) h3)
      clear Z_3 A_3 C_3 hz h3
      have hHeld : True := trivial
      refine wpAnyH_ready (rs := [14]) (by kernel_rfl) (by simp) ?_
      refine AllReadyH.cons rfl (fun KK hK => ?_) AllReadyH.nil
      clear hHeld
      obtain ⟨y4, d4, v5, hr, hz, h3⟩ := Z_4.out.run4 C_4.out rfl (by omega)
      rw [if_pos (show _ = true by kernel_rfl)]
      unfold Oper.wp execOp
      simp only [resolve, invoke, builtin, Sem.run_bind, Sem.run_pure, Result.andThen_ok, List.map_toArray, List.map_cons, List.map_nil, Act.eval, xa, xb, xc]
      simp only [Array.getD_eq_getD_getElem?, xg, xh, xi, Option.getD_some, hr, Result.andThen_ok, Oper.upon]
      refine hK.out _ _ trivial (fun hHeld => ?_)
      clear hK KK hr
      try simp only [Act.put, xa, xb, xc, xd, xe, xf]
      have Z_5 := Lib.hid hz
      clear Z_4 C_4 hz h3
      have hHeld : True := trivial
      refine wpAnyH_take (i := 15) (v := ?_) rfl (by kernel_rfl) (by kernel_rfl) (by kernel_rfl) (fun _ _ _ h => h) (Or.inl ⟨by kernel_rfl, ?_⟩) hHeld ?_
      rotate_left
      ·intro w hSw
       (try dsimp only at hSw)
       go_split_ands
       go_simp
       (try with_reducible rfl)
      try simp only [Act.put, xa, xb, xc, xd, xe, xf]
      refine wpAnyH_take (i := 16) (v := ?_) rfl (by kernel_rfl) (by kernel_rfl) (by kernel_rfl) (fun _ _ _ h => h) (Or.inl ⟨by kernel_rfl, ?_⟩) hHeld ?_
      rotate_left
      ·intro w hSw
       (try dsimp only at hSw)
       go_split_ands
       go_simp
       (try with_reducible rfl)
      try simp only [Act.put, xa, xb, xc, xd, xe, xf]
      refine wpAnyH_ready (rs := [17]) (by kernel_rfl) (by simp) ?_
      refine AllReadyH.cons rfl (fun KK hK => ?_) AllReadyH.nil
      clear hHeld
      have k0 := Z_5.out.d.cell 2
      have f0 := Z_5.out.d.frozen 2
      simp only [xg, xh, xi] at k0
      go_simp
      refine hK.out _ _ trivial (fun hHeld => ?_)
      clear hK KK k0 f0 hHeld
      try simp only [Act.put, xa, xb, xc, xd, xe, xf]
      refine anyH_world (fun wz => FX w4 wr wz B D Wb la lc cb _ _ _ _ _ _ _ _) (Z_5.out.st2 (.slice y2 (i + 1) d2)) ?_
      rintro v6 hz
      have Z_6 := Lib.hid hz
      clear hz Z_5
      have hHeld : True := trivial
      refine wpAnyH_take (i := 18) (v := ?_) rfl (by kernel_rfl) (by kernel_rfl) (by kernel_rfl) (fun _ _ _ h => h) (Or.inl ⟨by kernel_rfl, ?_⟩) hHeld ?_
      rotate_left
      ·intro w hSw
       (try dsimp only at hSw)
       go_split_ands
       go_simp
       (try with_reducible rfl)
      try simp only [Act.put, xa, xb, xc, xd, xe, xf]
      refine wpAnyH_take (i := 19) (v := ?_) rfl (by kernel_rfl) (by kernel_rfl) (by kernel_rfl) (fun _ _ _ h => h) (Or.inl ⟨by kernel_rfl, ?_⟩) hHeld ?_
      rotate_left
      ·intro w hSw
       (try dsimp only at hSw)
       go_split_ands
       go_simp
       (try with_reducible rfl)
      try simp only [Act.put, xa, xb, xc, xd, xe, xf]
      refine wpAnyH_ready (rs := [20]) (by kernel_rfl) (by simp) ?_
      refine AllReadyH.cons rfl (fun KK hK => ?_) AllReadyH.nil
      clear hHeld
      have k0 := Z_6.out.d.cell 4
      have f0 := Z_6.out.d.frozen 4
      simp only [xg, xh, xi] at k0
      go_simp
      refine hK.out _ _ trivial (fun hHeld => ?_)
      clear hK KK k0 f0 hHeld
      try simp only [Act.put, xa, xb, xc, xd, xe, xf]
      refine anyH_world (fun wz => FX w4 wr wz B D Wb la lc cb _ _ _ _ _ _ _ _) (Z_6.out.st4 (.slice y4 (i + 1) d4)) ?_
      rintro v7 hz
      have Z_7 := Lib.hid hz
      clear hz Z_6
      have hHeld : True := trivial
      refine wpAnyH_done (by kernel_rfl) ?_ _
      clear hHeld
      go_wp2_with fail
      refine ⟨⟨i + 1, rfl, by omega, Lib.hid (fix_end Z_7.out.k Z_7.out.d Z_7.out.o2 Z_7.out.o4)⟩, by simp [intOf]; omega⟩
   ·clear hHeld
    have k0 := Z_1.out.d.cell 4
    simp only [xg, xh, xi] at k0
    go_simp
    refine hK.out _ _ trivial (fun hHeld => ?_)
    clear hK KK k0
    try simp only [Act.put, xa, xb, xc, xd, xe, xf]
    refine wpAnyH_ready (rs := [5, 6, 13]) (by kernel_rfl) (by simp) ?_
    refine AllReadyH.cons rfl (fun KK hK => ?_) (AllReadyH.cons rfl (fun KK hK => ?_) (AllReadyH.cons rfl (fun KK hK => ?_) AllReadyH.nil))
    ·clear hHeld
     have k0 := Z_1.out.d.cell 2
     simp only [xg, xh, xi] at k0
     go_simp
     refine hK.out _ _ trivial (fun hHeld => ?_)
     clear hK KK k0
     try simp only [Act.put, xa, xb, xc, xd, xe, xf]
     refine wpAnyH_ready (rs := [6, 13]) (by kernel_rfl) (by simp) ?_
     refine AllReadyH.cons rfl (fun KK hK => ?_) (AllReadyH.cons rfl (fun KK hK => ?_) AllReadyH.nil)
     ·clear hHeld
      go_simp
      refine hK.out _ _ trivial (fun hHeld => ?_)
      clear hK KK hHeld
      try simp only [Act.put, xa, xb, xc, xd, xe, xf]
      refine anyH_world (fun wz => Ext v1 wz ∧ Bk wz v1.heap.size #[.int .i64 5]) ⟨(Ext.refl v1).alloc _, Bk.at rfl⟩ ?_
      rintro v2 ⟨hE, hB⟩
      obtain ⟨Ab, hb⟩ : ∃ q, v1.heap.size = q := ⟨_, rfl⟩
      rw [hb] at hB
      try rw [hb]
      have LA := Lib.hid (show wr.heap.size ≤ Ab from hb ▸ Z_1.out.sz)
      have Z_2 := Lib.hid (Z_1.out.ext hE)
      clear hE hb Z_1
      have A_2 := Lib.hid (hB)
      clear hB
      have hHeld : True := trivial
      refine wpAnyH_ready (rs := [7, 13]) (by kernel_rfl) (by simp) ?_
      refine AllReadyH.cons rfl (fun KK hK => ?_) (AllReadyH.cons rfl (fun KK hK => ?_) AllReadyH.nil)
      ·clear hHeld
       obtain ⟨y2, d2, v3, hr, hz, h3⟩ := Z_2.out.run2 A_2.out rfl (by omega)
       rw [if_pos (show _ = true by kernel_rfl)]
       unfold Oper.wp execOp
       simp only [resolve, invoke, builtin, Sem.run_bind, Sem.run_pure, Result.andThen_ok, List.map_toArray, List.map_cons, List.map_nil, Act.eval, xa, xb, xc]
       simp only [Array.getD_eq_getD_getElem?, xg, xh, xi, Option.getD_some, hr, Result.andThen_ok, Oper.upon]
       refine hK.out _ _ trivial (fun hHeld => ?_)
       clear hK KK hr
       try simp only [Act.put, xa, xb, xc, xd, xe, xf]
       have Z_3 := Lib.hid hz
       clear Z_2 A_2 hz h3
       have hHeld : True := trivial
       refine wpAnyH_ready (rs := [13]) (by kernel_rfl) (by simp) ?_
       refine AllReadyH.cons rfl (fun KK hK => ?_) AllReadyH.nil
       clear hHeld
       go_simp
       refine hK.out _ _ trivial (fun hHeld => ?_)
       clear hK KK hHeld
       try simp only [Act.put, xa, xb, xc, xd, xe, xf]
       refine anyH_world (fun wz => Ext v3 wz ∧ Bk wz v3.heap.size #[.int .u32 (i : Int)]) ⟨(Ext.refl v3).alloc _, Bk.at rfl⟩ ?_
       rintro v4 ⟨hE, hB⟩
       obtain ⟨Cb, hb⟩ : ∃ q, v3.heap.size = q := ⟨_, rfl⟩
       rw [hb] at hB
       try rw [hb]
       have LC := Lib.hid (show wr.heap.size ≤ Cb from hb ▸ Z_3.out.sz)
       have Z_4 := Lib.hid (Z_3.out.ext hE)
       clear hE hb Z_3
       have C_4 := Lib.hid (hB)
       clear hB
       have hHeld : True := trivial
       refine wpAnyH_ready (rs := [14]) (by kernel_rfl) (by simp) ?_
       refine AllReadyH.cons rfl (fun KK hK => ?_) AllReadyH.nil
       clear hHeld
       obtain ⟨y4, d4, v5, hr, hz, h3⟩ := Z_4.out.run4 C_4.out rfl (by omega)
       rw [if_pos (show _ = true by kernel_rfl)]
       unfold Oper.wp execOp
       simp only [resolve, invoke, builtin, Sem.run_bind, Sem.run_pure, Result.andThen_ok, List.map_toArray, List.map_cons, List.map_nil, Act.eval, xa, xb, xc]
       simp only [Array.getD_eq_getD_getElem?, xg, xh, xi, Option.getD_some, hr, Result.andThen_ok, Oper.upon]
       refine hK.out _ _ trivial (fun hHeld => ?_)
       clear hK KK hr
       try simp only [Act.put, xa, xb, xc, xd, xe, xf]
       have Z_5 := Lib.hid hz
       clear Z_4 C_4 hz h3
       have hHeld : True := trivial
       refine wpAnyH_take (i := 15) (v := ?_) rfl (by kernel_rfl) (by kernel_rfl) (by kernel_rfl) (fun _ _ _ h => h) (Or.inl ⟨by kernel_rfl, ?_⟩) hHeld ?_
       rotate_left
       ·intro w hSw
        (try dsimp only at hSw)
        go_split_ands
        go_simp
        (try with_reducible rfl)
       try simp only [Act.put, xa, xb, xc, xd, xe, xf]
       refine wpAnyH_take (i := 16) (v := ?_) rfl (by kernel_rfl) (by kernel_rfl) (by kernel_rfl) (fun _ _ _ h => h) (Or.inl ⟨by kernel_rfl, ?_⟩) hHeld ?_
       rotate_left
       ·intro w hSw
        (try dsimp only at hSw)
        go_split_ands
        go_simp
        (try with_reducible rfl)
       try simp only [Act.put, xa, xb, xc, xd, xe, xf]
       refine wpAnyH_ready (rs := [17]) (by kernel_rfl) (by simp) ?_
       refine AllReadyH.cons rfl (fun KK hK => ?_) AllReadyH.nil
       clear hHeld
       have k0 := Z_5.out.d.cell 2
       have f0 := Z_5.out.d.frozen 2
       simp only [xg, xh, xi] at k0
       go_simp
       refine hK.out _ _ trivial (fun hHeld => ?_)
       clear hK KK k0 f0 hHeld
       try simp only [Act.put, xa, xb, xc, xd, xe, xf]
       refine anyH_world (fun wz => FX w4 wr wz B D Wb la lc cb _ _ _ _ _ _ _ _) (Z_5.out.st2 (.slice y2 (i + 1) d2)) ?_
       rintro v6 hz
       have Z_6 := Lib.hid hz
       clear hz Z_5
       have hHeld : True := trivial
       refine wpAnyH_take (i := 18) (v := ?_) rfl (by kernel_rfl) (by kernel_rfl) (by kernel_rfl) (fun _ _ _ h => h) (Or.inl ⟨by kernel_rfl, ?_⟩) hHeld ?_
       rotate_left
       ·intro w hSw
        (try dsimp only at hSw)
        go_split_ands
        go_simp
        (try with_reducible rfl)
       try simp only [Act.put, xa, xb, xc, xd, xe, xf]
       refine wpAnyH_take (i := 19) (v := ?_) rfl (by kernel_rfl) (by kernel_rfl) (by kernel_rfl) (fun _ _ _ h => h) (Or.inl ⟨by kernel_rfl, ?_⟩) hHeld ?_
       rotate_left
       ·intro w hSw
        (try dsimp only at hSw)
        go_split_ands
        go_simp
        (try with_reducible rfl)
       try simp only [Act.put, xa, xb, xc, xd, xe, xf]
       refine wpAnyH_ready (rs := [20]) (by kernel_rfl) (by simp) ?_
       refine AllReadyH.cons rfl (fun KK hK => ?_) AllReadyH.nil
       clear hHeld
       have k0 := Z_6.out.d.cell 4
       have f0 := Z_6.out.d.frozen 4
       simp only [xg, xh, xi] at k0
       go_simp
       refine hK.out _ _ trivial (fun hHeld => ?_)
       clear hK KK k0 f0 hHeld
       try simp only [Act.put, xa, xb, xc, xd, xe, xf]
       refine anyH_world (fun wz => FX w4 wr wz B D Wb la lc cb _ _ _ _ _ _ _ _) (Z_6.out.st4 (.slice y4 (i + 1) d4)) ?_
       rintro v7 hz
       have Z_7 := Lib.hid hz
       clear hz Z_6
       have hHeld : True := trivial
       refine wpAnyH_done (by kernel_rfl) ?_ _
       clear hHeld
       go_wp2_with fail
       refine ⟨⟨i + 1, rfl, by omega, Lib.hid (fix_end Z_7.out.k Z_7.out.d Z_7.out.o2 Z_7.out.o4)⟩, by simp [intOf]; omega⟩
      ·clear hHeld
       go_simp
       refine hK.out _ _ trivial (fun hHeld => ?_)
       clear hK KK hHeld
       try simp only [Act.put, xa, xb, xc, xd, xe, xf]
       refine anyH_world (fun wz => Ext v2 wz ∧ Bk wz v2.heap.size #[.int .u32 (i : Int)]) ⟨(Ext.refl v2).alloc _, Bk.at rfl⟩ ?_
       rintro v3 ⟨hE, hB⟩
       obtain ⟨Cb, hb⟩ : ∃ q, v2.heap.size = q := ⟨_, rfl⟩
       rw [hb] at hB
       try rw [hb]
       have LC := Lib.hid (show wr.heap.size ≤ Cb from hb ▸ Z_2.out.sz)
       have Z_3 := Lib.hid (Z_2.out.ext hE)
       have A_3 := Lib.hid (A_2.out.ext hE)
       clear hE hb Z_2 A_2
       have C_3 := Lib.hid (hB)
       clear hB
       have hHeld : True := trivial
       refine wpAnyH_ready (rs := [7]) (by kernel_rfl) (by simp) ?_
       refine AllReadyH.cons rfl (fun KK hK => ?_) AllReadyH.nil
       clear hHeld
       obtain ⟨y2, d2, v4, hr, hz, h3⟩ := Z_3.out.run2 A_3.out rfl (by omega)
       rw [if_pos (show _ = true by kernel_rfl)]
       unfold Oper.wp execOp
       simp only [resolve, invoke, builtin, Sem.run_bind, Sem.run_pure, Result.andThen_ok, List.map_toArray, List.map_cons, List.map_nil, Act.eval, xa, xb, xc]
       simp only [Array.getD_eq_getD_getElem?, xg, xh, xi, Option.getD_some, hr, Result.andThen_ok, Oper.upon]
       refine hK.out _ _ trivial (fun hHeld => ?_)
       clear hK KK hr
       try simp only [Act.put, xa, xb, xc, xd, xe, xf]
       have Z_4 := Lib.hid hz
       have C_4 := Lib.hid (C_3.out.grown Z_3.out.o2 (.inr (fun k e => by have := HO2L.out k e; have := LC.out; omega)) h3)
       clear Z_3 A_3 C_3 hz h3
       have hHeld : True := trivial
       refine wpAnyH_ready (rs := [14]) (by kernel_rfl) (by simp) ?_
       refine AllReadyH.cons rfl (fun KK hK => ?_) AllReadyH.nil
       clear hHeld
       obtain ⟨y4, d4, v5, hr, hz, h3⟩ := Z_4.out.run4 C_4.out rfl (by omega)
       rw [if_pos (show _ = true by kernel_rfl)]
       unfold Oper.wp execOp
       simp only [resolve, invoke, builtin, Sem.run_bind, Sem.run_pure, Result.andThen_ok, List.map_toArray, List.map_cons, List.map_nil, Act.eval, xa, xb, xc]
       simp only [Array.getD_eq_getD_getElem?, xg, xh, xi, Option.getD_some, hr, Result.andThen_ok, Oper.upon]
       refine hK.out _ _ trivial (fun hHeld => ?_)
       clear hK KK hr
       try simp only [Act.put, xa, xb, xc, xd, xe, xf]
       have Z_5 := Lib.hid hz
       clear Z_4 C_4 hz h3
       have hHeld : True := trivial
       refine wpAnyH_take (i := 15) (v := ?_) rfl (by kernel_rfl) (by kernel_rfl) (by kernel_rfl) (fun _ _ _ h => h) (Or.inl ⟨by kernel_rfl, ?_⟩) hHeld ?_
       rotate_left
       ·intro w hSw
        (try dsimp only at hSw)
        go_split_ands
        go_simp
        (try with_reducible rfl)
       try simp only [Act.put, xa, xb, xc, xd, xe, xf]
       refine wpAnyH_take (i := 16) (v := ?_) rfl (by kernel_rfl) (by kernel_rfl) (by kernel_rfl) (fun _ _ _ h => h) (Or.inl ⟨by kernel_rfl, ?_⟩) hHeld ?_
       rotate_left
       ·intro w hSw
        (try dsimp only at hSw)
        go_split_ands
        go_simp
        (try with_reducible rfl)
       try simp only [Act.put, xa, xb, xc, xd, xe, xf]
       refine wpAnyH_ready (rs := [17]) (by kernel_rfl) (by simp) ?_
       refine AllReadyH.cons rfl (fun KK hK => ?_) AllReadyH.nil
       clear hHeld
       have k0 := Z_5.out.d.cell 2
       have f0 := Z_5.out.d.frozen 2
       simp only [xg, xh, xi] at k0
       go_simp
       refine hK.out _ _ trivial (fun hHeld => ?_)
       clear hK KK k0 f0 hHeld
       try simp only [Act.put, xa, xb, xc, xd, xe, xf]
       refine anyH_world (fun wz => FX w4 wr wz B D Wb la lc cb _ _ _ _ _ _ _ _) (Z_5.out.st2 (.slice y2 (i + 1) d2)) ?_
       rintro v6 hz
       have Z_6 := Lib.hid hz
       clear hz Z_5
       have hHeld : True := trivial
       refine wpAnyH_take (i := 18) (v := ?_) rfl (by kernel_rfl) (by kernel_rfl) (by kernel_rfl) (fun _ _ _ h => h) (Or.inl ⟨by kernel_rfl, ?_⟩) hHeld ?_
       rotate_left
       ·intro w hSw
        (try dsimp only at hSw)
        go_split_ands
        go_simp
        (try with_reducible rfl)
       try simp only [Act.put, xa, xb, xc, xd, xe, xf]
       refine wpAnyH_take (i := 19) (v := ?_) rfl (by kernel_rfl) (by kernel_rfl) (by kernel_rfl) (fun _ _ _ h => h) (Or.inl ⟨by kernel_rfl, ?_⟩) hHeld ?_
       rotate_left
       ·intro w hSw
        (try dsimp only at hSw)
        go_split_ands
        go_simp
        (try with_reducible rfl)
       try simp only [Act.put, xa, xb, xc, xd, xe, xf]
       refine wpAnyH_ready (rs := [20]) (by kernel_rfl) (by simp) ?_
       refine AllReadyH.cons rfl (fun KK hK => ?_) AllReadyH.nil
       clear hHeld
       have k0 := Z_6.out.d.cell 4
       have f0 := Z_6.out.d.frozen 4
       simp only [xg, xh, xi] at k0
       go_simp
       refine hK.out _ _ trivial (fun hHeld => ?_)
       clear hK KK k0 f0 hHeld
       try simp only [Act.put, xa, xb, xc, xd, xe, xf]
       refine anyH_world (fun wz => FX w4 wr wz B D Wb la lc cb _ _ _ _ _ _ _ _) (Z_6.out.st4 (.slice y4 (i + 1) d4)) ?_
       rintro v7 hz
       have Z_7 := Lib.hid hz
       clear hz Z_6
       have hHeld : True := trivial
       refine wpAnyH_done (by kernel_rfl) ?_ _
       clear hHeld
       go_wp2_with fail
       refine ⟨⟨i + 1, rfl, by omega, Lib.hid (fix_end Z_7.out.k Z_7.out.d Z_7.out.o2 Z_7.out.o4)⟩, by simp [intOf]; omega⟩
     ·clear hHeld
      go_simp
      refine hK.out _ _ trivial (fun hHeld => ?_)
      clear hK KK hHeld
      try simp only [Act.put, xa, xb, xc, xd, xe, xf]
      refine anyH_world (fun wz => Ext v1 wz ∧ Bk wz v1.heap.size #[.int .u32 (i : Int)]) ⟨(Ext.refl v1).alloc _, Bk.at rfl⟩ ?_
      rintro v2 ⟨hE, hB⟩
      obtain ⟨Cb, hb⟩ : ∃ q, v1.heap.size = q := ⟨_, rfl⟩
      rw [hb] at hB
      try rw [hb]
      have LC := Lib.hid (show wr.heap.size ≤ Cb from hb ▸ Z_1.out.sz)
      have Z_2 := Lib.hid (Z_1.out.ext hE)
      clear hE hb Z_1
      have C_2 := Lib.hid (hB)
      clear hB
      have hHeld : True := trivial
      refine wpAnyH_ready (rs := [6]) (by kernel_rfl) (by simp) ?_
      refine AllReadyH.cons rfl (fun KK hK => ?_) AllReadyH.nil
      clear hHeld
      go_simp
      refine hK.out _ _ trivial (fun hHeld => ?_)
      clear hK KK hHeld
      try simp only [Act.put, xa, xb, xc, xd, xe, xf]
      refine anyH_world (fun wz => Ext v2 wz ∧ Bk wz v2.heap.size #[.int .i64 5]) ⟨(Ext.refl v2).alloc _, Bk.at rfl⟩ ?_
      rintro v3 ⟨hE, hB⟩
      obtain ⟨Ab, hb⟩ : ∃ q, v2.heap.size = q := ⟨_, rfl⟩
      rw [hb] at hB
      try rw [hb]
      have LA := Lib.hid (show wr.heap.size ≤ Ab from hb ▸ Z_2.out.sz)
      have Z_3 := Lib.hid (Z_2.out.ext hE)
      have C_3 := Lib.hid (C_2.out.ext hE)
      clear hE hb Z_2 C_2
      have A_3 := Lib.hid (hB)
      clear hB
      have hHeld : True := trivial
      refine wpAnyH_ready (rs := [7]) (by kernel_rfl) (by simp) ?_
      refine AllReadyH.cons rfl (fun KK hK => ?_) AllReadyH.nil
      clear hHeld
      obtain ⟨y2, d2, v4, hr, hz, h3⟩ := Z_3.out.run2 A_3.out rfl (by omega)
      rw [if_pos (show _ = true by kernel_rfl)]
      unfold Oper.wp execOp
      simp only [resolve, invoke, builtin, Sem.run_bind, Sem.run_pure, Result.andThen_ok, List.map_toArray, List.map_cons, List.map_nil, Act.eval, xa, xb, xc]
      simp only [Array.getD_eq_getD_getElem?, xg, xh, xi, Option.getD_some, hr, Result.andThen_ok, Oper.upon]
      refine hK.out _ _ trivial (fun hHeld => ?_)
      clear hK KK hr
      try simp only [Act.put, xa, xb, xc, xd, xe, xf]
      have Z_4 := Lib.hid hz
      have C_4 := Lib.hid (C_3.out.grown Z_3.out.o2 (.inr (fun k e => by have := HO2L.out k e; have := LC.out; omega)) h3)
      clear Z_3 C_3 A_3 hz h3
      have hHeld : True := trivial
      refine wpAnyH_ready (rs := [14]) (by kernel_rfl) (by simp) ?_
      refine AllReadyH.cons rfl (fun KK hK => ?_) AllReadyH.nil
      clear hHeld
      obtain ⟨y4, d4, v5, hr, hz, h3⟩ := Z_4.out.run4 C_4.out rfl (by omega)
      rw [if_pos (show _ = true by kernel_rfl)]
      unfold Oper.wp execOp
      simp only [resolve, invoke, builtin, Sem.run_bind, Sem.run_pure, Result.andThen_ok, List.map_toArray, List.map_cons, List.map_nil, Act.eval, xa, xb, xc]
      simp only [Array.getD_eq_getD_getElem?, xg, xh, xi, Option.getD_some, hr, Result.andThen_ok, Oper.upon]
      refine hK.out _ _ trivial (fun hHeld => ?_)
      clear hK KK hr
      try simp only [Act.put, xa, xb, xc, xd, xe, xf]
      have Z_5 := Lib.hid hz
      clear Z_4 C_4 hz h3
      have hHeld : True := trivial
      refine wpAnyH_take (i := 15) (v := ?_) rfl (by kernel_rfl) (by kernel_rfl) (by kernel_rfl) (fun _ _ _ h => h) (Or.inl ⟨by kernel_rfl, ?_⟩) hHeld ?_
      rotate_left
      ·intro w hSw
       (try dsimp only at hSw)
       go_split_ands
       go_simp
       (try with_reducible rfl)
      try simp only [Act.put, xa, xb, xc, xd, xe, xf]
      refine wpAnyH_take (i := 16) (v := ?_) rfl (by kernel_rfl) (by kernel_rfl) (by kernel_rfl) (fun _ _ _ h => h) (Or.inl ⟨by kernel_rfl, ?_⟩) hHeld ?_
      rotate_left
      ·intro w hSw
       (try dsimp only at hSw)
       go_split_ands
       go_simp
       (try with_reducible rfl)
      try simp only [Act.put, xa, xb, xc, xd, xe, xf]
      refine wpAnyH_ready (rs := [17]) (by kernel_rfl) (by simp) ?_
      refine AllReadyH.cons rfl (fun KK hK => ?_) AllReadyH.nil
      clear hHeld
      have k0 := Z_5.out.d.cell 2
      have f0 := Z_5.out.d.frozen 2
      simp only [xg, xh, xi] at k0
      go_simp
      refine hK.out _ _ trivial (fun hHeld => ?_)
      clear hK KK k0 f0 hHeld
      try simp only [Act.put, xa, xb, xc, xd, xe, xf]
      refine anyH_world (fun wz => FX w4 wr wz B D Wb la lc cb _ _ _ _ _ _ _ _) (Z_5.out.st2 (.slice y2 (i + 1) d2)) ?_
      rintro v6 hz
      have Z_6 := Lib.hid hz
      clear hz Z_5
      have hHeld : True := trivial
      refine wpAnyH_take (i := 18) (v := ?_) rfl (by kernel_rfl) (by kernel_rfl) (by kernel_rfl) (fun _ _ _ h => h) (Or.inl ⟨by kernel_rfl, ?_⟩) hHeld ?_
      rotate_left
      ·intro w hSw
       (try dsimp only at hSw)
       go_split_ands
       go_simp
       (try with_reducible rfl)
      try simp only [Act.put, xa, xb, xc, xd, xe, xf]
      refine wpAnyH_take (i := 19) (v := ?_) rfl (by kernel_rfl) (by kernel_rfl) (by kernel_rfl) (fun _ _ _ h => h) (Or.inl ⟨by kernel_rfl, ?_⟩) hHeld ?_
      rotate_left
      ·intro w hSw
       (try dsimp only at hSw)
       go_split_ands
       go_simp
       (try with_reducible rfl)
      try simp only [Act.put, xa, xb, xc, xd, xe, xf]
      refine wpAnyH_ready (rs := [20]) (by kernel_rfl) (by simp) ?_
      refine AllReadyH.cons rfl (fun KK hK => ?_) AllReadyH.nil
      clear hHeld
      have k0 := Z_6.out.d.cell 4
      have f0 := Z_6.out.d.frozen 4
      simp only [xg, xh, xi] at k0
      go_simp
      refine hK.out _ _ trivial (fun hHeld => ?_)
      clear hK KK k0 f0 hHeld
      try simp only [Act.put, xa, xb, xc, xd, xe, xf]
      refine anyH_world (fun wz => FX w4 wr wz B D Wb la lc cb _ _ _ _ _ _ _ _) (Z_6.out.st4 (.slice y4 (i + 1) d4)) ?_
      rintro v7 hz
      have Z_7 := Lib.hid hz
      clear hz Z_6
      have hHeld : True := trivial
      refine wpAnyH_done (by kernel_rfl) ?_ _
      clear hHeld
      go_wp2_with fail
      refine ⟨⟨i + 1, rfl, by omega, Lib.hid (fix_end Z_7.out.k Z_7.out.d Z_7.out.o2 Z_7.out.o4)⟩, by simp [intOf]; omega⟩
    ·clear hHeld
     go_simp
     refine hK.out _ _ trivial (fun hHeld => ?_)
     clear hK KK hHeld
     try simp only [Act.put, xa, xb, xc, xd, xe, xf]
     refine anyH_world (fun wz => Ext v1 wz ∧ Bk wz v1.heap.size #[.int .i64 5]) ⟨(Ext.refl v1).alloc _, Bk.at rfl⟩ ?_
     rintro v2 ⟨hE, hB⟩
     obtain ⟨Ab, hb⟩ : ∃ q, v1.heap.size = q := ⟨_, rfl⟩
     rw [hb] at hB
     try rw [hb]
     have LA := Lib.hid (show wr.heap.size ≤ Ab from hb ▸ Z_1.out.sz)
     have Z_2 := Lib.hid (Z_1.out.ext hE)
     clear hE hb Z_1
     have A_2 := Lib.hid (hB)
     clear hB
     have hHeld : True := trivial
     refine wpAnyH_ready (rs := [5, 13]) (by kernel_rfl) (by simp) ?_
     refine AllReadyH.cons rfl (fun KK hK => ?_) (AllReadyH.cons rfl (fun KK hK => ?_) AllReadyH.nil)
     ·clear hHeld
      have k0 := Z_2.out.d.cell 2
      simp only [xg, xh, xi] at k0
      go_simp
      refine hK.out _ _ trivial (fun hHeld => ?_)
      clear hK KK k0
      try simp only [Act.put, xa, xb, xc, xd, xe, xf]
      refine wpAnyH_ready (rs := [7, 13]) (by kernel_rfl) (by simp) ?_
      refine AllReadyH.cons rfl (fun KK hK => ?_) (AllReadyH.cons rfl (fun KK hK => ?_) AllReadyH.nil)
      ·clear hHeld
       obtain ⟨y2, d2, v3, hr, hz, h3⟩ := Z_2.out.run2 A_2.out rfl (by omega)
       rw [if_pos (show _ = true by kernel_rfl)]
       unfold Oper.wp execOp
       simp only [resolve, invoke, builtin, Sem.run_bind, Sem.run_pure, Result.andThen_ok, List.map_toArray, List.map_cons, List.map_nil, Act.eval, xa, xb, xc]
       simp only [Array.getD_eq_getD_getElem?, xg, xh, xi, Option.getD_some, hr, Result.andThen_ok, Oper.upon]
       refine hK.out _ _ trivial (fun hHeld => ?_)
       clear hK KK hr
       try simp only [Act.put, xa, xb, xc, xd, xe, xf]
       have Z_3 := Lib.hid hz
       clear Z_2 A_2 hz h3
       have hHeld : True := trivial
       refine wpAnyH_ready (rs := [13]) (by kernel_rfl) (by simp) ?_
       refine AllReadyH.cons rfl (fun KK hK => ?_) AllReadyH.nil
       clear hHeld
       go_simp
       refine hK.out _ _ trivial (fun hHeld => ?_)
       clear hK KK hHeld
       try simp only [Act.put, xa, xb, xc, xd, xe, xf]
       refine anyH_world (fun wz => Ext v3 wz ∧ Bk wz v3.heap.size #[.int .u32 (i : Int)]) ⟨(Ext.refl v3).alloc _, Bk.at rfl⟩ ?_
       rintro v4 ⟨hE, hB⟩
       obtain ⟨Cb, hb⟩ : ∃ q, v3.heap.size = q := ⟨_, rfl⟩
       rw [hb] at hB
       try rw [hb]
       have LC := Lib.hid (show wr.heap.size ≤ Cb from hb ▸ Z_3.out.sz)
       have Z_4 := Lib.hid (Z_3.out.ext hE)
       clear hE hb Z_3
       have C_4 := Lib.hid (hB)
       clear hB
       have hHeld : True := trivial
       refine wpAnyH_ready (rs := [14]) (by kernel_rfl) (by simp) ?_
       refine AllReadyH.cons rfl (fun KK hK => ?_) AllReadyH.nil
       clear hHeld
       obtain ⟨y4, d4, v5, hr, hz, h3⟩ := Z_4.out.run4 C_4.out rfl (by omega)
       rw [if_pos (show _ = true by kernel_rfl)]
       unfold Oper.wp execOp
       simp only [resolve, invoke, builtin, Sem.run_bind, Sem.run_pure, Result.andThen_ok, List.map_toArray, List.map_cons, List.map_nil, Act.eval, xa, xb, xc]
       simp only [Array.getD_eq_getD_getElem?, xg, xh, xi, Option.getD_some, hr, Result.andThen_ok, Oper.upon]
       refine hK.out _ _ trivial (fun hHeld => ?_)
       clear hK KK hr
       try simp only [Act.put, xa, xb, xc, xd, xe, xf]
       have Z_5 := Lib.hid hz
       clear Z_4 C_4 hz h3
       have hHeld : True := trivial
       refine wpAnyH_take (i := 15) (v := ?_) rfl (by kernel_rfl) (by kernel_rfl) (by kernel_rfl) (fun _ _ _ h => h) (Or.inl ⟨by kernel_rfl, ?_⟩) hHeld ?_
       rotate_left
       ·intro w hSw
        (try dsimp only at hSw)
        go_split_ands
        go_simp
        (try with_reducible rfl)
       try simp only [Act.put, xa, xb, xc, xd, xe, xf]
       refine wpAnyH_take (i := 16) (v := ?_) rfl (by kernel_rfl) (by kernel_rfl) (by kernel_rfl) (fun _ _ _ h => h) (Or.inl ⟨by kernel_rfl, ?_⟩) hHeld ?_
       rotate_left
       ·intro w hSw
        (try dsimp only at hSw)
        go_split_ands
        go_simp
        (try with_reducible rfl)
       try simp only [Act.put, xa, xb, xc, xd, xe, xf]
       refine wpAnyH_ready (rs := [17]) (by kernel_rfl) (by simp) ?_
       refine AllReadyH.cons rfl (fun KK hK => ?_) AllReadyH.nil
       clear hHeld
       have k0 := Z_5.out.d.cell 2
       have f0 := Z_5.out.d.frozen 2
       simp only [xg, xh, xi] at k0
       go_simp
       refine hK.out _ _ trivial (fun hHeld => ?_)
       clear hK KK k0 f0 hHeld
       try simp only [Act.put, xa, xb, xc, xd, xe, xf]
       refine anyH_world (fun wz => FX w4 wr wz B D Wb la lc cb _ _ _ _ _ _ _ _) (Z_5.out.st2 (.slice y2 (i + 1) d2)) ?_
       rintro v6 hz
       have Z_6 := Lib.hid hz
       clear hz Z_5
       have hHeld : True := trivial
       refine wpAnyH_take (i := 18) (v := ?_) rfl (by kernel_rfl) (by kernel_rfl) (by kernel_rfl) (fun _ _ _ h => h) (Or.inl ⟨by kernel_rfl, ?_⟩) hHeld ?_
       rotate_left
       ·intro w hSw
        (try dsimp only at hSw)
        go_split_ands
        go_simp
        (try with_reducible rfl)
       try simp only [Act.put, xa, xb, xc, xd, xe, xf]
       refine wpAnyH_take (i := 19) (v := ?_) rfl (by kernel_rfl) (by kernel_rfl) (by kernel_rfl) (fun _ _ _ h => h) (Or.inl ⟨by kernel_rfl, ?_⟩) hHeld ?_
       rotate_left
       ·intro w hSw
        (try dsimp only at hSw)
        go_split_ands
        go_simp
        (try with_reducible rfl)
       try simp only [Act.put, xa, xb, xc, xd, xe, xf]
       refine wpAnyH_ready (rs := [20]) (by kernel_rfl) (by simp) ?_
       refine AllReadyH.cons rfl (fun KK hK => ?_) AllReadyH.nil
       clear hHeld
       have k0 := Z_6.out.d.cell 4
       have f0 := Z_6.out.d.frozen 4
       simp only [xg, xh, xi] at k0
       go_simp
       refine hK.out _ _ trivial (fun hHeld => ?_)
       clear hK KK k0 f0 hHeld
       try simp only [Act.put, xa, xb, xc, xd, xe, xf]
       refine anyH_world (fun wz => FX w4 wr wz B D Wb la lc cb _ _ _ _ _ _ _ _) (Z_6.out.st4 (.slice y4 (i + 1) d4)) ?_
       rintro v7 hz
       have Z_7 := Lib.hid hz
       clear hz Z_6
       have hHeld : True := trivial
       refine wpAnyH_done (by kernel_rfl) ?_ _
       clear hHeld
       go_wp2_with fail
       refine ⟨⟨i + 1, rfl, by omega, Lib.hid (fix_end Z_7.out.k Z_7.out.d Z_7.out.o2 Z_7.out.o4)⟩, by simp [intOf]; omega⟩
      ·clear hHeld
       go_simp
       refine hK.out _ _ trivial (fun hHeld => ?_)
       clear hK KK hHeld
       try simp only [Act.put, xa, xb, xc, xd, xe, xf]
       refine anyH_world (fun wz => Ext v2 wz ∧ Bk wz v2.heap.size #[.int .u32 (i : Int)]) ⟨(Ext.refl v2).alloc _, Bk.at rfl⟩ ?_
       rintro v3 ⟨hE, hB⟩
       obtain ⟨Cb, hb⟩ : ∃ q, v2.heap.size = q := ⟨_, rfl⟩
       rw [hb] at hB
       try rw [hb]
       have LC := Lib.hid (show wr.heap.size ≤ Cb from hb ▸ Z_2.out.sz)
       have Z_3 := Lib.hid (Z_2.out.ext hE)
       have A_3 := Lib.hid (A_2.out.ext hE)
       clear hE hb Z_2 A_2
       have C_3 := Lib.hid (hB)
       clear hB
       have hHeld : True := trivial
       refine wpAnyH_ready (rs := [7]) (by kernel_rfl) (by simp) ?_
       refine AllReadyH.cons rfl (fun KK hK => ?_) AllReadyH.nil
       clear hHeld
       obtain ⟨y2, d2, v4, hr, hz, h3⟩ := Z_3.out.run2 A_3.out rfl (by omega)
       rw [if_pos (show _ = true by kernel_rfl)]
       unfold Oper.wp execOp
       simp only [resolve, invoke, builtin, Sem.run_bind, Sem.run_pure, Result.andThen_ok, List.map_toArray, List.map_cons, List.map_nil, Act.eval, xa, xb, xc]
       simp only [Array.getD_eq_getD_getElem?, xg, xh, xi, Option.getD_some, hr, Result.andThen_ok, Oper.upon]
       refine hK.out _ _ trivial (fun hHeld => ?_)
       clear hK KK hr
       try simp only [Act.put, xa, xb, xc, xd, xe, xf]
       have Z_4 := Lib.hid hz
       have C_4 := Lib.hid (C_3.out.grown Z_3.out.o2 (.inr (fun k e => by have := HO2L.out k e; have := LC.out; omega)) h3)
       clear Z_3 A_3 C_3 hz h3
       have hHeld : True := trivial
       refine wpAnyH_ready (rs := [14]) (by kernel_rfl) (by simp) ?_
       refine AllReadyH.cons rfl (fun KK hK => ?_) AllReadyH.nil
       clear hHeld
       obtain ⟨y4, d4, v5, hr, hz, h3⟩ := Z_4.out.run4 C_4.out rfl (by omega)
       rw [if_pos (show _ = true by kernel_rfl)]
       unfold Oper.wp execOp
       simp only [resolve, invoke, builtin, Sem.run_bind, Sem.run_pure, Result.andThen_ok, List.map_toArray, List.map_cons, List.map_nil, Act.eval, xa, xb, xc]
       simp only [Array.getD_eq_getD_getElem?, xg, xh, xi, Option.getD_some, hr, Result.andThen_ok, Oper.upon]
       refine hK.out _ _ trivial (fun hHeld => ?_)
       clear hK KK hr
       try simp only [Act.put, xa, xb, xc, xd, xe, xf]
       have Z_5 := Lib.hid hz
       clear Z_4 C_4 hz h3
       have hHeld : True := trivial
       refine wpAnyH_take (i := 15) (v := ?_) rfl (by kernel_rfl) (by kernel_rfl) (by kernel_rfl) (fun _ _ _ h => h) (Or.inl ⟨by kernel_rfl, ?_⟩) hHeld ?_
       rotate_left
       ·intro w hSw
        (try dsimp only at hSw)
        go_split_ands
        go_simp
        (try with_reducible rfl)
       try simp only [Act.put, xa, xb, xc, xd, xe, xf]
       refine wpAnyH_take (i := 16) (v := ?_) rfl (by kernel_rfl) (by kernel_rfl) (by kernel_rfl) (fun _ _ _ h => h) (Or.inl ⟨by kernel_rfl, ?_⟩) hHeld ?_
       rotate_left
       ·intro w hSw
        (try dsimp only at hSw)
        go_split_ands
        go_simp
        (try with_reducible rfl)
       try simp only [Act.put, xa, xb, xc, xd, xe, xf]
       refine wpAnyH_ready (rs := [17]) (by kernel_rfl) (by simp) ?_
       refine AllReadyH.cons rfl (fun KK hK => ?_) AllReadyH.nil
       clear hHeld
       have k0 := Z_5.out.d.cell 2
       have f0 := Z_5.out.d.frozen 2
       simp only [xg, xh, xi] at k0
       go_simp
       refine hK.out _ _ trivial (fun hHeld => ?_)
       clear hK KK k0 f0 hHeld
       try simp only [Act.put, xa, xb, xc, xd, xe, xf]
       refine anyH_world (fun wz => FX w4 wr wz B D Wb la lc cb _ _ _ _ _ _ _ _) (Z_5.out.st2 (.slice y2 (i + 1) d2)) ?_
       rintro v6 hz
       have Z_6 := Lib.hid hz
       clear hz Z_5
       have hHeld : True := trivial
       refine wpAnyH_take (i := 18) (v := ?_) rfl (by kernel_rfl) (by kernel_rfl) (by kernel_rfl) (fun _ _ _ h => h) (Or.inl ⟨by kernel_rfl, ?_⟩) hHeld ?_
       rotate_left
       ·intro w hSw
        (try dsimp only at hSw)
        go_split_ands
        go_simp
        (try with_reducible rfl)
       try simp only [Act.put, xa, xb, xc, xd, xe, xf]
       refine wpAnyH_take (i := 19) (v := ?_) rfl (by kernel_rfl) (by kernel_rfl) (by kernel_rfl) (fun _ _ _ h => h) (Or.inl ⟨by kernel_rfl, ?_⟩) hHeld ?_
       rotate_left
       ·intro w hSw
        (try dsimp only at hSw)
        go_split_ands
        go_simp
        (try with_reducible rfl)
       try simp only [Act.put, xa, xb, xc, xd, xe, xf]
       refine wpAnyH_ready (rs := [20]) (by kernel_rfl) (by simp) ?_
       refine AllReadyH.cons rfl (fun KK hK => ?_) AllReadyH.nil
       clear hHeld
       have k0 := Z_6.out.d.cell 4
       have f0 := Z_6.out.d.frozen 4
       simp only [xg, xh, xi] at k0
       go_simp
       refine hK.out _ _ trivial (fun hHeld => ?_)
       clear hK KK k0 f0 hHeld
       try simp only [Act.put, xa, xb, xc, xd, xe, xf]
       refine anyH_world (fun wz => FX w4 wr wz B D Wb la lc cb _ _ _ _ _ _ _ _) (Z_6.out.st4 (.slice y4 (i + 1) d4)) ?_
       rintro v7 hz
       have Z_7 := Lib.hid hz
       clear hz Z_6
       have hHeld : True := trivial
       refine wpAnyH_done (by kernel_rfl) ?_ _
       clear hHeld
       go_wp2_with fail
       refine ⟨⟨i + 1, rfl, by omega, Lib.hid (fix_end Z_7.out.k Z_7.out.d Z_7.out.o2 Z_7.out.o4)⟩, by simp [intOf]; omega⟩
     ·clear hHeld
      go_simp
      refine hK.out _ _ trivial (fun hHeld => ?_)
      clear hK KK hHeld
      try simp only [Act.put, xa, xb, xc, xd, xe, xf]
      refine anyH_world (fun wz => Ext v2 wz ∧ Bk wz v2.heap.size #[.int .u32 (i : Int)]) ⟨(Ext.refl v2).alloc _, Bk.at rfl⟩ ?_
      rintro v3 ⟨hE, hB⟩
      obtain ⟨Cb, hb⟩ : ∃ q, v2.heap.size = q := ⟨_, rfl⟩
      rw [hb] at hB
      try rw [hb]
      have LC := Lib.hid (show wr.heap.size ≤ Cb from hb ▸ Z_2.out.sz)
      have Z_3 := Lib.hid (Z_2.out.ext hE)
      have A_3 := Lib.hid (A_2.out.ext hE)
      clear hE hb Z_2 A_2
      have C_3 := Lib.hid (hB)
      clear hB
      have hHeld : True := trivial
      refine wpAnyH_ready (rs := [5]) (by kernel_rfl) (by simp) ?_
      refine AllReadyH.cons rfl (fun KK hK => ?_) AllReadyH.nil
      clear hHeld
      have k0 := Z_3.out.d.cell 2
      simp only [xg, xh, xi] at k0
      go_simp
      refine hK.out _ _ trivial (fun hHeld => ?_)
      clear hK KK k0
      try simp only [Act.put, xa, xb, xc, xd, xe, xf]
      refine wpAnyH_ready (rs := [7]) (by kernel_rfl) (by simp) ?_
      refine AllReadyH.cons rfl (fun KK hK => ?_) AllReadyH.nil
      clear hHeld
      obtain ⟨y2, d2, v4, hr, hz, h3⟩ := Z_3.out.run2 A_3.out rfl (by omega)
      rw [if_pos (show _ = true by kernel_rfl)]
      unfold Oper.wp execOp
      simp only [resolve, invoke, builtin, Sem.run_bind, Sem.run_pure, Result.andThen_ok, List.map_toArray, List.map_cons, List.map_nil, Act.eval, xa, xb, xc]
      simp only [Array.getD_eq_getD_getElem?, xg, xh, xi, Option.getD_some, hr, Result.andThen_ok, Oper.upon]
      refine hK.out _ _ trivial (fun hHeld => ?_)
      clear hK KK hr
      try simp only [Act.put, xa, xb, xc, xd, xe, xf]
      have Z_4 := Lib.hid hz
      have C_4 := Lib.hid (C_3.out.grown Z_3.out.o2 (.inr (fun k e => by have := HO2L.out k e; have := LC.out; omega)) h3)
      clear Z_3 A_3 C_3 hz h3
      have hHeld : True := trivial
      refine wpAnyH_ready (rs := [14]) (by kernel_rfl) (by simp) ?_
      refine AllReadyH.cons rfl (fun KK hK => ?_) AllReadyH.nil
      clear hHeld
      obtain ⟨y4, d4, v5, hr, hz, h3⟩ := Z_4.out.run4 C_4.out rfl (by omega)
      rw [if_pos (show _ = true by kernel_rfl)]
      unfold Oper.wp execOp
      simp only [resolve, invoke, builtin, Sem.run_bind, Sem.run_pure, Result.andThen_ok, List.map_toArray, List.map_cons, List.map_nil, Act.eval, xa, xb, xc]
      simp only [Array.getD_eq_getD_getElem?, xg, xh, xi, Option.getD_some, hr, Result.andThen_ok, Oper.upon]
      refine hK.out _ _ trivial (fun hHeld => ?_)
      clear hK KK hr
      try simp only [Act.put, xa, xb, xc, xd, xe, xf]
      have Z_5 := Lib.hid hz
      clear Z_4 C_4 hz h3
      have hHeld : True := trivial
      refine wpAnyH_take (i := 15) (v := ?_) rfl (by kernel_rfl) (by kernel_rfl) (by kernel_rfl) (fun _ _ _ h => h) (Or.inl ⟨by kernel_rfl, ?_⟩) hHeld ?_
      rotate_left
      ·intro w hSw
       (try dsimp only at hSw)
       go_split_ands
       go_simp
       (try with_reducible rfl)
      try simp only [Act.put, xa, xb, xc, xd, xe, xf]
      refine wpAnyH_take (i := 16) (v := ?_) rfl (by kernel_rfl) (by kernel_rfl) (by kernel_rfl) (fun _ _ _ h => h) (Or.inl ⟨by kernel_rfl, ?_⟩) hHeld ?_
      rotate_left
      ·intro w hSw
       (try dsimp only at hSw)
       go_split_ands
       go_simp
       (try with_reducible rfl)
      try simp only [Act.put, xa, xb, xc, xd, xe, xf]
      refine wpAnyH_ready (rs := [17]) (by kernel_rfl) (by simp) ?_
      refine AllReadyH.cons rfl (fun KK hK => ?_) AllReadyH.nil
      clear hHeld
      have k0 := Z_5.out.d.cell 2
      have f0 := Z_5.out.d.frozen 2
      simp only [xg, xh, xi] at k0
      go_simp
      refine hK.out _ _ trivial (fun hHeld => ?_)
      clear hK KK k0 f0 hHeld
      try simp only [Act.put, xa, xb, xc, xd, xe, xf]
      refine anyH_world (fun wz => FX w4 wr wz B D Wb la lc cb _ _ _ _ _ _ _ _) (Z_5.out.st2 (.slice y2 (i + 1) d2)) ?_
      rintro v6 hz
      have Z_6 := Lib.hid hz
      clear hz Z_5
      have hHeld : True := trivial
      refine wpAnyH_take (i := 18) (v := ?_) rfl (by kernel_rfl) (by kernel_rfl) (by kernel_rfl) (fun _ _ _ h => h) (Or.inl ⟨by kernel_rfl, ?_⟩) hHeld ?_
      rotate_left
      ·intro w hSw
       (try dsimp only at hSw)
       go_split_ands
       go_simp
       (try with_reducible rfl)
      try simp only [Act.put, xa, xb, xc, xd, xe, xf]
      refine wpAnyH_take (i := 19) (v := ?_) rfl (by kernel_rfl) (by kernel_rfl) (by kernel_rfl) (fun _ _ _ h => h) (Or.inl ⟨by kernel_rfl, ?_⟩) hHeld ?_
      rotate_left
      ·intro w hSw
       (try dsimp only at hSw)
       go_split_ands
       go_simp
       (try with_reducible rfl)
      try simp only [Act.put, xa, xb, xc, xd, xe, xf]
      refine wpAnyH_ready (rs := [20]) (by kernel_rfl) (by simp) ?_
      refine AllReadyH.cons rfl (fun KK hK => ?_) AllReadyH.nil
      clear hHeld
      have k0 := Z_6.out.d.cell 4
      have f0 := Z_6.out.d.frozen 4
      simp only [xg, xh, xi] at k0
      go_simp
      refine hK.out _ _ trivial (fun hHeld => ?_)
      clear hK KK k0 f0 hHeld
      try simp only [Act.put, xa, xb, xc, xd, xe, xf]
      refine anyH_world (fun wz => FX w4 wr wz B D Wb la lc cb _ _ _ _ _ _ _ _) (Z_6.out.st4 (.slice y4 (i + 1) d4)) ?_
      rintro v7 hz
      have Z_7 := Lib.hid hz
      clear hz Z_6
      have hHeld : True := trivial
      refine wpAnyH_done (by kernel_rfl) ?_ _
      clear hHeld
      go_wp2_with fail
      refine ⟨⟨i + 1, rfl, by omega, Lib.hid (fix_end Z_7.out.k Z_7.out.d Z_7.out.o2 Z_7.out.o4)⟩, by simp [intOf]; omega⟩
    ·clear hHeld
     go_simp
     refine hK.out _ _ trivial (fun hHeld => ?_)
     clear hK KK hHeld
     try simp only [Act.put, xa, xb, xc, xd, xe, xf]
     refine anyH_world (fun wz => Ext v1 wz ∧ Bk wz v1.heap.size #[.int .u32 (i : Int)]) ⟨(Ext.refl v1).alloc _, Bk.at rfl⟩ ?_
     rintro v2 ⟨hE, hB⟩
     obtain ⟨Cb, hb⟩ : ∃ q, v1.heap.size = q := ⟨_, rfl⟩
     rw [hb] at hB
     try rw [hb]
     have LC := Lib.hid (show wr.heap.size ≤ Cb from hb ▸ Z_1.out.sz)
     have Z_2 := Lib.hid (Z_1.out.ext hE)
     clear hE hb Z_1
     have C_2 := Lib.hid (hB)
     clear hB
     have hHeld : True := trivial
     refine wpAnyH_ready (rs := [5, 6]) (by kernel_rfl) (by simp) ?_
     refine AllReadyH.cons rfl (fun KK hK => ?_) (AllReadyH.cons rfl (fun KK hK => ?_) AllReadyH.nil)
     ·clear hHeld
      have k0 := Z_2.out.d.cell 2
      simp only [xg, xh, xi] at k0
      go_simp
      refine hK.out _ _ trivial (fun hHeld => ?_)
      clear hK KK k0
      try simp only [Act.put, xa, xb, xc, xd, xe, xf]
      refine wpAnyH_ready (rs := [6]) (by kernel_rfl) (by simp) ?_
      refine AllReadyH.cons rfl (fun KK hK => ?_) AllReadyH.nil
      clear hHeld
      go_simp
      refine hK.out _ _ trivial (fun hHeld => ?_)
      clear hK KK hHeld
      try simp only [Act.put, xa, xb, xc, xd, xe, xf]
      refine anyH_world (fun wz => Ext v2 wz ∧ Bk wz v2.heap.size #[.int .i64 5]) ⟨(Ext.refl v2).alloc _, Bk.at rfl⟩ ?_
      rintro v3 ⟨hE, hB⟩
      obtain ⟨Ab, hb⟩ : ∃ q, v2.heap.size = q := ⟨_, rfl⟩
      rw [hb] at hB
      try rw [hb]
      have LA := Lib.hid (show wr.heap.size ≤ Ab from hb ▸ Z_2.out.sz)
      have Z_3 := Lib.hid (Z_2.out.ext hE)
      have C_3 := Lib.hid (C_2.out.ext hE)
      clear hE hb Z_2 C_2
      have A_3 := Lib.hid (hB)
      clear hB
      have hHeld : True := trivial
      refine wpAnyH_ready (rs := [7]) (by kernel_rfl) (by simp) ?_
      refine AllReadyH.cons rfl (fun KK hK => ?_) AllReadyH.nil
      clear hHeld
      obtain ⟨y2, d2, v4, hr, hz, h3⟩ := Z_3.out.run2 A_3.out rfl (by omega)
      rw [if_pos (show _ = true by kernel_rfl)]
      unfold Oper.wp execOp
      simp only [resolve, invoke, builtin, Sem.run_bind, Sem.run_pure, Result.andThen_ok, List.map_toArray, List.map_cons, List.map_nil, Act.eval, xa, xb, xc]
      simp only [Array.getD_eq_getD_getElem?, xg, xh, xi, Option.getD_some, hr, Result.andThen_ok, Oper.upon]
      refine hK.out _ _ trivial (fun hHeld => ?_)
      clear hK KK hr
      try simp only [Act.put, xa, xb, xc, xd, xe, xf]
      have Z_4 := Lib.hid hz
      have C_4 := Lib.hid (C_3.out.grown Z_3.out.o2 (.inr (fun k e => by have := HO2L.out k e; have := LC.out; omega)) h3)
      clear Z_3 C_3 A_3 hz h3
      have hHeld : True := trivial
      refine wpAnyH_ready (rs := [14]) (by kernel_rfl) (by simp) ?_
      refine AllReadyH.cons rfl (fun KK hK => ?_) AllReadyH.nil
      clear hHeld
      obtain ⟨y4, d4, v5, hr, hz, h3⟩ := Z_4.out.run4 C_4.out rfl (by omega)
      rw [if_pos (show _ = true by kernel_rfl)]
      unfold Oper.wp execOp
      simp only [resolve, invoke, builtin, Sem.run_bind, Sem.run_pure, Result.andThen_ok, List.map_toArray, List.map_cons, List.map_nil, Act.eval, xa, xb, xc]
      simp only [Array.getD_eq_getD_getElem?, xg, xh, xi, Option.getD_some, hr, Result.andThen_ok, Oper.upon]
      refine hK.out _ _ trivial (fun hHeld => ?_)
      clear hK KK hr
      try simp only [Act.put, xa, xb, xc, xd, xe, xf]
      have Z_5 := Lib.hid hz
      clear Z_4 C_4 hz h3
      have hHeld : True := trivial
      refine wpAnyH_take (i := 15) (v := ?_) rfl (by kernel_rfl) (by kernel_rfl) (by kernel_rfl) (fun _ _ _ h => h) (Or.inl ⟨by kernel_rfl, ?_⟩) hHeld ?_
      rotate_left
      ·intro w hSw
       (try dsimp only at hSw)
       go_split_ands
       go_simp
       (try with_reducible rfl)
      try simp only [Act.put, xa, xb, xc, xd, xe, xf]
      refine wpAnyH_take (i := 16) (v := ?_) rfl (by kernel_rfl) (by kernel_rfl) (by kernel_rfl) (fun _ _ _ h => h) (Or.inl ⟨by kernel_rfl, ?_⟩) hHeld ?_
      rotate_left
      ·intro w hSw
       (try dsimp only at hSw)
       go_split_ands
       go_simp
       (try with_reducible rfl)
      try simp only [Act.put, xa, xb, xc, xd, xe, xf]
      refine wpAnyH_ready (rs := [17]) (by kernel_rfl) (by simp) ?_
      refine AllReadyH.cons rfl (fun KK hK => ?_) AllReadyH.nil
      clear hHeld
      have k0 := Z_5.out.d.cell 2
      have f0 := Z_5.out.d.frozen 2
      simp only [xg, xh, xi] at k0
      go_simp
      refine hK.out _ _ trivial (fun hHeld => ?_)
      clear hK KK k0 f0 hHeld
      try simp only [Act.put, xa, xb, xc, xd, xe, xf]
      refine anyH_world (fun wz => FX w4 wr wz B D Wb la lc cb _ _ _ _ _ _ _ _) (Z_5.out.st2 (.slice y2 (i + 1) d2)) ?_
      rintro v6 hz
      have Z_6 := Lib.hid hz
      clear hz Z_5
      have hHeld : True := trivial
      refine wpAnyH_take (i := 18) (v := ?_) rfl (by kernel_rfl) (by kernel_rfl) (by kernel_rfl) (fun _ _ _ h => h) (Or.inl ⟨by kernel_rfl, ?_⟩) hHeld ?_
      rotate_left
      ·intro w hSw
       (try dsimp only at hSw)
       go_split_ands
       go_simp
       (try with_reducible rfl)
      try simp only [Act.put, xa, xb, xc, xd, xe, xf]
      refine wpAnyH_take (i := 19) (v := ?_) rfl (by kernel_rfl) (by kernel_rfl) (by kernel_rfl) (fun _ _ _ h => h) (Or.inl ⟨by kernel_rfl, ?_⟩) hHeld ?_
      rotate_left
      ·intro w hSw
       (try dsimp only at hSw)
       go_split_ands
       go_simp
       (try with_reducible rfl)
      try simp only [Act.put, xa, xb, xc, xd, xe, xf]
      refine wpAnyH_ready (rs := [20]) (by kernel_rfl) (by simp) ?_
      refine AllReadyH.cons rfl (fun KK hK => ?_) AllReadyH.nil
      clear hHeld
      have k0 := Z_6.out.d.cell 4
      have f0 := Z_6.out.d.frozen 4
      simp only [xg, xh, xi] at k0
      go_simp
      refine hK.out _ _ trivial (fun hHeld => ?_)
      clear hK KK k0 f0 hHeld
      try simp only [Act.put, xa, xb, xc, xd, xe, xf]
      refine anyH_world (fun wz => FX w4 wr wz B D Wb la lc cb _ _ _ _ _ _ _ _) (Z_6.out.st4 (.slice y4 (i + 1) d4)) ?_
      rintro v7 hz
      have Z_7 := Lib.hid hz
      clear hz Z_6
      have hHeld : True := trivial
      refine wpAnyH_done (by kernel_rfl) ?_ _
      clear hHeld
      go_wp2_with fail
      refine ⟨⟨i + 1, rfl, by omega, Lib.hid (fix_end Z_7.out.k Z_7.out.d Z_7.out.o2 Z_7.out.o4)⟩, by simp [intOf]; omega⟩
     ·clear hHeld
      go_simp
      refine hK.out _ _ trivial (fun hHeld => ?_)
      clear hK KK hHeld
      try simp only [Act.put, xa, xb, xc, xd, xe, xf]
      refine anyH_world (fun wz => Ext v2 wz ∧ Bk wz v2.heap.size #[.int .i64 5]) ⟨(Ext.refl v2).alloc _, Bk.at rfl⟩ ?_
      rintro v3 ⟨hE, hB⟩
      obtain ⟨Ab, hb⟩ : ∃ q, v2.heap.size = q := ⟨_, rfl⟩
      rw [hb] at hB
      try rw [hb]
      have LA := Lib.hid (show wr.heap.size ≤ Ab from hb ▸ Z_2.out.sz)
      have Z_3 := Lib.hid (Z_2.out.ext hE)
      have C_3 := Lib.hid (C_2.out.ext hE)
      clear hE hb Z_2 C_2
      have A_3 := Lib.hid (hB)
      clear hB
      have hHeld : True := trivial
      refine wpAnyH_ready (rs := [5]) (by kernel_rfl) (by simp) ?_
      refine AllReadyH.cons rfl (fun KK hK => ?_) AllReadyH.nil
      clear hHeld
      have k0 := Z_3.out.d.cell 2
      simp only [xg, xh, xi] at k0
      go_simp
      refine hK.out _ _ trivial (fun hHeld => ?_)
      clear hK KK k0
      try simp only [Act.put, xa, xb, xc, xd, xe, xf]
      refine wpAnyH_ready (rs := [7]) (by kernel_rfl) (by simp) ?_
      refine AllReadyH.cons rfl (fun KK hK => ?_) AllReadyH.nil
      clear hHeld
      obtain ⟨y2, d2, v4, hr, hz, h3⟩ := Z_3.out.run2 A_3.out rfl (by omega)
      rw [if_pos (show _ = true by kernel_rfl)]
      unfold Oper.wp execOp
      simp only [resolve, invoke, builtin, Sem.run_bind, Sem.run_pure, Result.andThen_ok, List.map_toArray, List.map_cons, List.map_nil, Act.eval, xa, xb, xc]
      simp only [Array.getD_eq_getD_getElem?, xg, xh, xi, Option.getD_some, hr, Result.andThen_ok, Oper.upon]
      refine hK.out _ _ trivial (fun hHeld => ?_)
      clear hK KK hr
      try simp only [Act.put, xa, xb, xc, xd, xe, xf]
      have Z_4 := Lib.hid hz
      have C_4 := Lib.hid (C_3.out.grown Z_3.out.o2 (.inr (fun k e => by have := HO2L.out k e; have := LC.out; omega)) h3)
      clear Z_3 C_3 A_3 hz h3
      have hHeld : True := trivial
      refine wpAnyH_ready (rs := [14]) (by kernel_rfl) (by simp) ?_
      refine AllReadyH.cons rfl (fun KK hK => ?_) AllReadyH.nil
      clear hHeld
      obtain ⟨y4, d4, v5, hr, hz, h3⟩ := Z_4.out.run4 C_4.out rfl (by omega)
      rw [if_pos (show _ = true by kernel_rfl)]
      unfold Oper.wp execOp
      simp only [resolve, invoke, builtin, Sem.run_bind, Sem.run_pure, Result.andThen_ok, List.map_toArray, List.map_cons, List.map_nil, Act.eval, xa, xb, xc]
      simp only [Array.getD_eq_getD_getElem?, xg, xh, xi, Option.getD_some, hr, Result.andThen_ok, Oper.upon]
      refine hK.out _ _ trivial (fun hHeld => ?_)
      clear hK KK hr
      try simp only [Act.put, xa, xb, xc, xd, xe, xf]
      have Z_5 := Lib.hid hz
      clear Z_4 C_4 hz h3
      have hHeld : True := trivial
      refine wpAnyH_take (i := 15) (v := ?_) rfl (by kernel_rfl) (by kernel_rfl) (by kernel_rfl) (fun _ _ _ h => h) (Or.inl ⟨by kernel_rfl, ?_⟩) hHeld ?_
      rotate_left
      ·intro w hSw
       (try dsimp only at hSw)
       go_split_ands
       go_simp
       (try with_reducible rfl)
      try simp only [Act.put, xa, xb, xc, xd, xe, xf]
      refine wpAnyH_take (i := 16) (v := ?_) rfl (by kernel_rfl) (by kernel_rfl) (by kernel_rfl) (fun _ _ _ h => h) (Or.inl ⟨by kernel_rfl, ?_⟩) hHeld ?_
      rotate_left
      ·intro w hSw
       (try dsimp only at hSw)
       go_split_ands
       go_simp
       (try with_reducible rfl)
      try simp only [Act.put, xa, xb, xc, xd, xe, xf]
      refine wpAnyH_ready (rs := [17]) (by kernel_rfl) (by simp) ?_
      refine AllReadyH.cons rfl (fun KK hK => ?_) AllReadyH.nil
      clear hHeld
      have k0 := Z_5.out.d.cell 2
      have f0 := Z_5.out.d.frozen 2
      simp only [xg, xh, xi] at k0
      go_simp
      refine hK.out _ _ trivial (fun hHeld => ?_)
      clear hK KK k0 f0 hHeld
      try simp only [Act.put, xa, xb, xc, xd, xe, xf]
      refine anyH_world (fun wz => FX w4 wr wz B D Wb la lc cb _ _ _ _ _ _ _ _) (Z_5.out.st2 (.slice y2 (i + 1) d2)) ?_
      rintro v6 hz
      have Z_6 := Lib.hid hz
      clear hz Z_5
      have hHeld : True := trivial
      refine wpAnyH_take (i := 18) (v := ?_) rfl (by kernel_rfl) (by kernel_rfl) (by kernel_rfl) (fun _ _ _ h => h) (Or.inl ⟨by kernel_rfl, ?_⟩) hHeld ?_
      rotate_left
      ·intro w hSw
       (try dsimp only at hSw)
       go_split_ands
       go_simp
       (try with_reducible rfl)
      try simp only [Act.put, xa, xb, xc, xd, xe, xf]
      refine wpAnyH_take (i := 19) (v := ?_) rfl (by kernel_rfl) (by kernel_rfl) (by kernel_rfl) (fun _ _ _ h => h) (Or.inl ⟨by kernel_rfl, ?_⟩) hHeld ?_
      rotate_left
      ·intro w hSw
       (try dsimp only at hSw)
       go_split_ands
       go_simp
       (try with_reducible rfl)
      try simp only [Act.put, xa, xb, xc, xd, xe, xf]
      refine wpAnyH_ready (rs := [20]) (by kernel_rfl) (by simp) ?_
      refine AllReadyH.cons rfl (fun KK hK => ?_) AllReadyH.nil
      clear hHeld
      have k0 := Z_6.out.d.cell 4
      have f0 := Z_6.out.d.frozen 4
      simp only [xg, xh, xi] at k0
      go_simp
      refine hK.out _ _ trivial (fun hHeld => ?_)
      clear hK KK k0 f0 hHeld
      try simp only [Act.put, xa, xb, xc, xd, xe, xf]
      refine anyH_world (fun wz => FX w4 wr wz B D Wb la lc cb _ _ _ _ _ _ _ _) (Z_6.out.st4 (.slice y4 (i + 1) d4)) ?_
      rintro v7 hz
      have Z_7 := Lib.hid hz
      clear hz Z_6
      have hHeld : True := trivial
      refine wpAnyH_done (by kernel_rfl) ?_ _
      clear hHeld
      go_wp2_with fail
      refine ⟨⟨i + 1, rfl, by omega, Lib.hid (fix_end Z_7.out.k Z_7.out.d Z_7.out.o2 Z_7.out.o4)⟩, by simp [intOf]; omega⟩
   ·clear hHeld
    go_simp
    refine hK.out _ _ trivial (fun hHeld => ?_)
    clear hK KK hHeld
    try simp only [Act.put, xa, xb, xc, xd, xe, xf]
    refine anyH_world (fun wz => Ext v1 wz ∧ Bk wz v1.heap.size #[.int .u32 (i : Int)]) ⟨(Ext.refl v1).alloc _, Bk.at rfl⟩ ?_
    rintro v2 ⟨hE, hB⟩
    obtain ⟨Cb, hb⟩ : ∃ q, v1.heap.size = q := ⟨_, rfl⟩
    rw [hb] at hB
    try rw [hb]
    have LC := Lib.hid (show wr.heap.size ≤ Cb from hb ▸ Z_1.out.sz)
    have Z_2 := Lib.hid (Z_1.out.ext hE)
    clear hE hb Z_1
    have C_2 := Lib.hid (hB)
    clear hB
    have hHeld : True := trivial
    refine wpAnyH_ready (rs := [5, 6, 11]) (by kernel_rfl) (by simp) ?_
    refine AllReadyH.cons rfl (fun KK hK => ?_) (AllReadyH.cons rfl (fun KK hK => ?_) (AllReadyH.cons rfl (fun KK hK => ?_) AllReadyH.nil))
    ·clear hHeld
     have k0 := Z_2.out.d.cell 2
     simp only [xg, xh, xi] at k0
     go_simp
     refine hK.out _ _ trivial (fun hHeld => ?_)
     clear hK KK k0
     try simp only [Act.put, xa, xb, xc, xd, xe, xf]
     refine wpAnyH_ready (rs := [6, 11]) (by kernel_rfl) (by simp) ?_
     refine AllReadyH.cons rfl (fun KK hK => ?_) (AllReadyH.cons rfl (fun KK hK => ?_) AllReadyH.nil)
     ·clear hHeld
      go_simp
      refine hK.out _ _ trivial (fun hHeld => ?_)
      clear hK KK hHeld
      try simp only [Act.put, xa, xb, xc, xd, xe, xf]
      refine anyH_world (fun wz => Ext v2 wz ∧ Bk wz v2.heap.size #[.int .i64 5]) ⟨(Ext.refl v2).alloc _, Bk.at rfl⟩ ?_
      rintro v3 ⟨hE, hB⟩
      obtain ⟨Ab, hb⟩ : ∃ q, v2.heap.size = q := ⟨_, rfl⟩
      rw [hb] at hB
      try rw [hb]
      have LA := Lib.hid (show wr.heap.size ≤ Ab from hb ▸ Z_2.out.sz)
      have Z_3 := Lib.hid (Z_2.out.ext hE)
      have C_3 := Lib.hid (C_2.out.ext hE)
      clear hE hb Z_2 C_2
      have A_3 := Lib.hid (hB)
      clear hB
      have hHeld : True := trivial
      refine wpAnyH_ready (rs := [7, 11]) (by kernel_rfl) (by simp) ?_
      refine AllReadyH.cons rfl (fun KK hK => ?_) (AllReadyH.cons rfl (fun KK hK => ?_) AllReadyH.nil)
      ·clear hHeld
       obtain ⟨y2, d2, v4, hr, hz, h3⟩ := Z_3.out.run2 A_3.out rfl (by omega)
       rw [if_pos (show _ = true by kernel_rfl)]
       unfold Oper.wp execOp
       simp only [resolve, invoke, builtin, Sem.run_bind, Sem.run_pure, Result.andThen_ok, List.map_toArray, List.map_cons, List.map_nil, Act.eval, xa, xb, xc]
       simp only [Array.getD_eq_getD_getElem?, xg, xh, xi, Option.getD_some, hr, Result.andThen_ok, Oper.upon]
       refine hK.out _ _ trivial (fun hHeld => ?_)
       clear hK KK hr
       try simp only [Act.put, xa, xb, xc, xd, xe, xf]
       have Z_4 := Lib.hid hz
       have C_4 := Lib.hid (C_3.out.grown Z_3.out.o2 (.inr (fun k e => by have := HO2L.out k e; have := LC.out; omega)) h3)
       clear Z_3 C_3 A_3 hz h3
       have hHeld : True := trivial
       refine wpAnyH_ready (rs := [11]) (by kernel_rfl) (by simp) ?_
       refine AllReadyH.cons rfl (fun KK hK => ?_) AllReadyH.nil
       clear hHeld
       have k0 := Z_4.out.d.cell 4
       simp only [xg, xh, xi] at k0
       go_simp
       refine hK.out _ _ trivial (fun hHeld => ?_)
       clear hK KK k0
       try simp only [Act.put, xa, xb, xc, xd, xe, xf]
       refine wpAnyH_ready (rs := [14]) (by kernel_rfl) (by simp) ?_
       refine AllReadyH.cons rfl (fun KK hK => ?_) AllReadyH.nil
       clear hHeld
       obtain ⟨y4, d4, v5, hr, hz, h3⟩ := Z_4.out.run4 C_4.out rfl (by omega)
       rw [if_pos (show _ = true by kernel_rfl)]
       unfold Oper.wp execOp
       simp only [resolve, invoke, builtin, Sem.run_bind, Sem.run_pure, Result.andThen_ok, List.map_toArray, List.map_cons, List.map_nil, Act.eval, xa, xb, xc]
       simp only [Array.getD_eq_getD_getElem?, xg, xh, xi, Option.getD_some, hr, Result.andThen_ok, Oper.upon]
       refine hK.out _ _ trivial (fun hHeld => ?_)
       clear hK KK hr
       try simp only [Act.put, xa, xb, xc, xd, xe, xf]
       have Z_5 := Lib.hid hz
       clear Z_4 C_4 hz h3
       have hHeld : True := trivial
       refine wpAnyH_take (i := 15) (v := ?_) rfl (by kernel_rfl) (by kernel_rfl) (by kernel_rfl) (fun _ _ _ h => h) (Or.inl ⟨by kernel_rfl, ?_⟩) hHeld ?_
       rotate_left
       ·intro w hSw
        (try dsimp only at hSw)
        go_split_ands
        go_simp
        (try with_reducible rfl)
       try simp only [Act.put, xa, xb, xc, xd, xe, xf]
       refine wpAnyH_take (i := 16) (v := ?_) rfl (by kernel_rfl) (by kernel_rfl) (by kernel_rfl) (fun _ _ _ h => h) (Or.inl ⟨by kernel_rfl, ?_⟩) hHeld ?_
       rotate_left
       ·intro w hSw
        (try dsimp only at hSw)
        go_split_ands
        go_simp
        (try with_reducible rfl)
       try simp only [Act.put, xa, xb, xc, xd, xe, xf]
       refine wpAnyH_ready (rs := [17]) (by kernel_rfl) (by simp) ?_
       refine AllReadyH.cons rfl (fun KK hK => ?_) AllReadyH.nil
       clear hHeld
       have k0 := Z_5.out.d.cell 2
       have f0 := Z_5.out.d.frozen 2
       simp only [xg, xh, xi] at k0
       go_simp
       refine hK.out _ _ trivial (fun hHeld => ?_)
       clear hK KK k0 f0 hHeld
       try simp only [Act.put, xa, xb, xc, xd, xe, xf]
       refine anyH_world (fun wz => FX w4 wr wz B D Wb la lc cb _ _ _ _ _ _ _ _) (Z_5.out.st2 (.slice y2 (i + 1) d2)) ?_
       rintro v6 hz
       have Z_6 := Lib.hid hz
       clear hz Z_5
       have hHeld : True := trivial
       refine wpAnyH_take (i := 18) (v := ?_) rfl (by kernel_rfl) (by kernel_rfl) (by kernel_rfl) (fun _ _ _ h => h) (Or.inl ⟨by kernel_rfl, ?_⟩) hHeld ?_
       rotate_left
       ·intro w hSw
        (try dsimp only at hSw)
        go_split_ands
        go_simp
        (try with_reducible rfl)
       try simp only [Act.put, xa, xb, xc, xd, xe, xf]
       refine wpAnyH_take (i := 19) (v := ?_) rfl (by kernel_rfl) (by kernel_rfl) (by kernel_rfl) (fun _ _ _ h => h) (Or.inl ⟨by kernel_rfl, ?_⟩) hHeld ?_
       rotate_left
       ·intro w hSw
        (try dsimp only at hSw)
        go_split_ands
        go_simp
        (try with_reducible rfl)
       try simp only [Act.put, xa, xb, xc, xd, xe, xf]
       refine wpAnyH_ready (rs := [20]) (by kernel_rfl) (by simp) ?_
       refine AllReadyH.cons rfl (fun KK hK => ?_) AllReadyH.nil
       clear hHeld
       have k0 := Z_6.out.d.cell 4
       have f0 := Z_6.out.d.frozen 4
       simp only [xg, xh, xi] at k0
       go_simp
       refine hK.out _ _ trivial (fun hHeld => ?_)
       clear hK KK k0 f0 hHeld
       try simp only [Act.put, xa, xb, xc, xd, xe, xf]
       refine anyH_world (fun wz => FX w4 wr wz B D Wb la lc cb _ _ _ _ _ _ _ _) (Z_6.out.st4 (.slice y4 (i + 1) d4)) ?_
       rintro v7 hz
       have Z_7 := Lib.hid hz
       clear hz Z_6
       have hHeld : True := trivial
       refine wpAnyH_done (by kernel_rfl) ?_ _
       clear hHeld
       go_wp2_with fail
       refine ⟨⟨i + 1, rfl, by omega, Lib.hid (fix_end Z_7.out.k Z_7.out.d Z_7.out.o2 Z_7.out.o4)⟩, by simp [intOf]; omega⟩
      ·clear hHeld
       have k0 := Z_3.out.d.cell 4
       simp only [xg, xh, xi] at k0
       go_simp
       refine hK.out _ _ trivial (fun hHeld => ?_)
       clear hK KK k0
       try simp only [Act.put, xa, xb, xc, xd, xe, xf]
       refine wpAnyH_ready (rs := [7]) (by kernel_rfl) (by simp) ?_
       refine AllReadyH.cons rfl (fun KK hK => ?_) AllReadyH.nil
       clear hHeld
       obtain ⟨y2, d2, v4, hr, hz, h3⟩ := Z_3.out.run2 A_3.out rfl (by omega)
       rw [if_pos (show _ = true by kernel_rfl)]
       unfold Oper.wp execOp
       simp only [resolve, invoke, builtin, Sem.run_bind, Sem.run_pure, Result.andThen_ok, List.map_toArray, List.map_cons, List.map_nil, Act.eval, xa, xb, xc]
       simp only [Array.getD_eq_getD_getElem?, xg, xh, xi, Option.getD_some, hr, Result.andThen_ok, Oper.upon]
       refine hK.out _ _ trivial (fun hHeld => ?_)
       clear hK KK hr
       try simp only [Act.put, xa, xb, xc, xd, xe, xf]
       have Z_4 := Lib.hid hz
       have C_4 := Lib.hid (C_3.out.grown Z_3.out.o2 (.inr (fun k e => by have := HO2L.out k e; have := LC.out; omega)) h3)
       clear Z_3 C_3 A_3 hz h3
       have hHeld : True := trivial
       refine wpAnyH_ready (rs := [14]) (by kernel_rfl) (by simp) ?_
       refine AllReadyH.cons rfl (fun KK hK => ?_) AllReadyH.nil
       clear hHeld
       obtain ⟨y4, d4, v5, hr, hz, h3⟩ := Z_4.out.run4 C_4.out rfl (by omega)
       rw [if_pos (show _ = true by kernel_rfl)]
       unfold Oper.wp execOp
       simp only [resolve, invoke, builtin, Sem.run_bind, Sem.run_pure, Result.andThen_ok, List.map_toArray, List.map_cons, List.map_nil, Act.eval, xa, xb, xc]
       simp only [Array.getD_eq_getD_getElem?, xg, xh, xi, Option.getD_some, hr, Result.andThen_ok, Oper.upon]
       refine hK.out _ _ trivial (fun hHeld => ?_)
       clear hK KK hr
       try simp only [Act.put, xa, xb, xc, xd, xe, xf]
       have Z_5 := Lib.hid hz
       clear Z_4 C_4 hz h3
       have hHeld : True := trivial
       refine wpAnyH_take (i := 15) (v := ?_) rfl (by kernel_rfl) (by kernel_rfl) (by kernel_rfl) (fun _ _ _ h => h) (Or.inl ⟨by kernel_rfl, ?_⟩) hHeld ?_
       rotate_left
       ·intro w hSw
        (try dsimp only at hSw)
        go_split_ands
        go_simp
        (try with_reducible rfl)
       try simp only [Act.put, xa, xb, xc, xd, xe, xf]
       refine wpAnyH_take (i := 16) (v := ?_) rfl (by kernel_rfl) (by kernel_rfl) (by kernel_rfl) (fun _ _ _ h => h) (Or.inl ⟨by kernel_rfl, ?_⟩) hHeld ?_
       rotate_left
       ·intro w hSw
        (try dsimp only at hSw)
        go_split_ands
        go_simp
        (try with_reducible rfl)
       try simp only [Act.put, xa, xb, xc, xd, xe, xf]
       refine wpAnyH_ready (rs := [17]) (by kernel_rfl) (by simp) ?_
       refine AllReadyH.cons rfl (fun KK hK => ?_) AllReadyH.nil
       clear hHeld
       have k0 := Z_5.out.d.cell 2
       have f0 := Z_5.out.d.frozen 2
       simp only [xg, xh, xi] at k0
       go_simp
       refine hK.out _ _ trivial (fun hHeld => ?_)
       clear hK KK k0 f0 hHeld
       try simp only [Act.put, xa, xb, xc, xd, xe, xf]
       refine anyH_world (fun wz => FX w4 wr wz B D Wb la lc cb _ _ _ _ _ _ _ _) (Z_5.out.st2 (.slice y2 (i + 1) d2)) ?_
       rintro v6 hz
       have Z_6 := Lib.hid hz
       clear hz Z_5
       have hHeld : True := trivial
       refine wpAnyH_take (i := 18) (v := ?_) rfl (by kernel_rfl) (by kernel_rfl) (by kernel_rfl) (fun _ _ _ h => h) (Or.inl ⟨by kernel_rfl, ?_⟩) hHeld ?_
       rotate_left
       ·intro w hSw
        (try dsimp only at hSw)
        go_split_ands
        go_simp
        (try with_reducible rfl)
       try simp only [Act.put, xa, xb, xc, xd, xe, xf]
       refine wpAnyH_take (i := 19) (v := ?_) rfl (by kernel_rfl) (by kernel_rfl) (by kernel_rfl) (fun _ _ _ h => h) (Or.inl ⟨by kernel_rfl, ?_⟩) hHeld ?_
       rotate_left
       ·intro w hSw
        (try dsimp only at hSw)
        go_split_ands
        go_simp
        (try with_reducible rfl)
       try simp only [Act.put, xa, xb, xc, xd, xe, xf]
       refine wpAnyH_ready (rs := [20]) (by kernel_rfl) (by simp) ?_
       refine AllReadyH.cons rfl (fun KK hK => ?_) AllReadyH.nil
       clear hHeld
       have k0 := Z_6.out.d.cell 4
       have f0 := Z_6.out.d.frozen 4
       simp only [xg, xh, xi] at k0
       go_simp
       refine hK.out _ _ trivial (fun hHeld => ?_)
       clear hK KK k0 f0 hHeld
       try simp only [Act.put, xa, xb, xc, xd, xe, xf]
       refine anyH_world (fun wz => FX w4 wr wz B D Wb la lc cb _ _ _ _ _ _ _ _) (Z_6.out.st4 (.slice y4 (i + 1) d4)) ?_
       rintro v7 hz
       have Z_7 := Lib.hid hz
       clear hz Z_6
       have hHeld : True := trivial
       refine wpAnyH_done (by kernel_rfl) ?_ _
       clear hHeld
       go_wp2_with fail
       refine ⟨⟨i + 1, rfl, by omega, Lib.hid (fix_end Z_7.out.k Z_7.out.d Z_7.out.o2 Z_7.out.o4)⟩, by simp [intOf]; omega⟩
     ·clear hHeld
      have k0 := Z_2.out.d.cell 4
      simp only [xg, xh, xi] at k0
      go_simp
      refine hK.out _ _ trivial (fun hHeld => ?_)
      clear hK KK k0
      try simp only [Act.put, xa, xb, xc, xd, xe, xf]
      refine wpAnyH_ready (rs := [6]) (by kernel_rfl) (by simp) ?_
      refine AllReadyH.cons rfl (fun KK hK => ?_) AllReadyH.nil
      clear hHeld
      go_simp
      refine hK.out _ _ trivial (fun hHeld => ?_)
      clear hK KK hHeld
      try simp only [Act.put, xa, xb, xc, xd, xe, xf]
      refine anyH_world (fun wz => Ext v2 wz ∧ Bk wz v2.heap.size #[.int .i64 5]) ⟨(Ext.refl v2).alloc _, Bk.at rfl⟩ ?_
      rintro v3 ⟨hE, hB⟩
      obtain ⟨Ab, hb⟩ : ∃ q, v2.heap.size = q := ⟨_, rfl⟩
      rw [hb] at hB
      try rw [hb]
      have LA := Lib.hid (show wr.heap.size ≤ Ab from hb ▸ Z_2.out.sz)
      have Z_3 := Lib.hid (Z_2.out.ext hE)
      have C_3 := Lib.hid (C_2.out.ext hE)
      clear hE hb Z_2 C_2
      have A_3 := Lib.hid (hB)
      clear hB
      have hHeld : True := trivial
      refine wpAnyH_ready (rs := [7]) (by kernel_rfl) (by simp) ?_
      refine AllReadyH.cons rfl (fun KK hK => ?_) AllReadyH.nil
      clear hHeld
      obtain ⟨y2, d2, v4, hr, hz, h3⟩ := Z_3.out.run2 A_3.out rfl (by omega)
      rw [if_pos (show _ = true by kernel_rfl)]
      unfold Oper.wp execOp
      simp only [resolve, invoke, builtin, Sem.run_bind, Sem.run_pure, Result.andThen_ok, List.map_toArray, List.map_cons, List.map_nil, Act.eval, xa, xb, xc]
      simp only [Array.getD_eq_getD_getElem?, xg, xh, xi, Option.getD_some, hr, Result.andThen_ok, Oper.upon]
      refine hK.out _ _ trivial (fun hHeld => ?_)
      clear hK KK hr
      try simp only [Act.put, xa, xb, xc, xd, xe, xf]
      have Z_4 := Lib.hid hz
      have C_4 := Lib.hid (C_3.out.grown Z_3.out.o2 (.inr (fun k e => by have := HO2L.out k e; have := LC.out; omega)) h3)
      clear Z_3 C_3 A_3 hz h3
      have hHeld : True := trivial
      refine wpAnyH_ready (rs := [14]) (by kernel_rfl) (by simp) ?_
      refine AllReadyH.cons rfl (fun KK hK => ?_) AllReadyH.nil
      clear hHeld
      obtain ⟨y4, d4, v5, hr, hz, h3⟩ := Z_4.out.run4 C_4.out rfl (by omega)
      rw [if_pos (show _ = true by kernel_rfl)]
      unfold Oper.wp execOp
      simp only [resolve, invoke, builtin, Sem.run_bind, Sem.run_pure, Result.andThen_ok, List.map_toArray, List.map_cons, List.map_nil, Act.eval, xa, xb, xc]
      simp only [Array.getD_eq_getD_getElem?, xg, xh, xi, Option.getD_some, hr, Result.andThen_ok, Oper.upon]
      refine hK.out _ _ trivial (fun hHeld => ?_)
      clear hK KK hr
      try simp only [Act.put, xa, xb, xc, xd, xe, xf]
      have Z_5 := Lib.hid hz
      clear Z_4 C_4 hz h3
      have hHeld : True := trivial
      refine wpAnyH_take (i := 15) (v := ?_) rfl (by kernel_rfl) (by kernel_rfl) (by kernel_rfl) (fun _ _ _ h => h) (Or.inl ⟨by kernel_rfl, ?_⟩) hHeld ?_
      rotate_left
      ·intro w hSw
       (try dsimp only at hSw)
       go_split_ands
       go_simp
       (try with_reducible rfl)
      try simp only [Act.put, xa, xb, xc, xd, xe, xf]
      refine wpAnyH_take (i := 16) (v := ?_) rfl (by kernel_rfl) (by kernel_rfl) (by kernel_rfl) (fun _ _ _ h => h) (Or.inl ⟨by kernel_rfl, ?_⟩) hHeld ?_
      rotate_left
      ·intro w hSw
       (try dsimp only at hSw)
       go_split_ands
       go_simp
       (try with_reducible rfl)
      try simp only [Act.put, xa, xb, xc, xd, xe, xf]
      refine wpAnyH_ready (rs := [17]) (by kernel_rfl) (by simp) ?_
      refine AllReadyH.cons rfl (fun KK hK => ?_) AllReadyH.nil
      clear hHeld
      have k0 := Z_5.out.d.cell 2
      have f0 := Z_5.out.d.frozen 2
      simp only [xg, xh, xi] at k0
      go_simp
      refine hK.out _ _ trivial (fun hHeld => ?_)
      clear hK KK k0 f0 hHeld
      try simp only [Act.put, xa, xb, xc, xd, xe, xf]
      refine anyH_world (fun wz => FX w4 wr wz B D Wb la lc cb _ _ _ _ _ _ _ _) (Z_5.out.st2 (.slice y2 (i + 1) d2)) ?_
      rintro v6 hz
      have Z_6 := Lib.hid hz
      clear hz Z_5
      have hHeld : True := trivial
      refine wpAnyH_take (i := 18) (v := ?_) rfl (by kernel_rfl) (by kernel_rfl) (by kernel_rfl) (fun _ _ _ h => h) (Or.inl ⟨by kernel_rfl, ?_⟩) hHeld ?_
      rotate_left
      ·intro w hSw
       (try dsimp only at hSw)
       go_split_ands
       go_simp
       (try with_reducible rfl)
      try simp only [Act.put, xa, xb, xc, xd, xe, xf]
      refine wpAnyH_take (i := 19) (v := ?_) rfl (by kernel_rfl) (by kernel_rfl) (by kernel_rfl) (fun _ _ _ h => h) (Or.inl ⟨by kernel_rfl, ?_⟩) hHeld ?_
      rotate_left
      ·intro w hSw
       (try dsimp only at hSw)
       go_split_ands
       go_simp
       (try with_reducible rfl)
      try simp only [Act.put, xa, xb, xc, xd, xe, xf]
      refine wpAnyH_ready (rs := [20]) (by kernel_rfl) (by simp) ?_
      refine AllReadyH.cons rfl (fun KK hK => ?_) AllReadyH.nil
      clear hHeld
      have k0 := Z_6.out.d.cell 4
      have f0 := Z_6.out.d.frozen 4
      simp only [xg, xh, xi] at k0
      go_simp
      refine hK.out _ _ trivial (fun hHeld => ?_)
      clear hK KK k0 f0 hHeld
      try simp only [Act.put, xa, xb, xc, xd, xe, xf]
      refine anyH_world (fun wz => FX w4 wr wz B D Wb la lc cb _ _ _ _ _ _ _ _) (Z_6.out.st4 (.slice y4 (i + 1) d4)) ?_
      rintro v7 hz
      have Z_7 := Lib.hid hz
      clear hz Z_6
      have hHeld : True := trivial
      refine wpAnyH_done (by kernel_rfl) ?_ _
      clear hHeld
      go_wp2_with fail
      refine ⟨⟨i + 1, rfl, by omega, Lib.hid (fix_end Z_7.out.k Z_7.out.d Z_7.out.o2 Z_7.out.o4)⟩, by simp [intOf]; omega⟩
    ·clear hHeld
     go_simp
     refine hK.out _ _ trivial (fun hHeld => ?_)
     clear hK KK hHeld
     try simp only [Act.put, xa, xb, xc, xd, xe, xf]
     refine anyH_world (fun wz => Ext v2 wz ∧ Bk wz v2.heap.size #[.int .i64 5]) ⟨(Ext.refl v2).alloc _, Bk.at rfl⟩ ?_
     rintro v3 ⟨hE, hB⟩
     obtain ⟨Ab, hb⟩ : ∃ q, v2.heap.size = q := ⟨_, rfl⟩
     rw [hb] at hB
     try rw [hb]
     have LA := Lib.hid (show wr.heap.size ≤ Ab from hb ▸ Z_2.out.sz)
     have Z_3 := Lib.hid (Z_2.out.ext hE)
     have C_3 := Lib.hid (C_2.out.ext hE)
     clear hE hb Z_2 C_2
     have A_3 := Lib.hid (hB)
     clear hB
     have hHeld : True := trivial
     refine wpAnyH_ready (rs := [5, 11]) (by kernel_rfl) (by simp) ?_
     refine AllReadyH.cons rfl (fun KK hK => ?_) (AllReadyH.cons rfl (fun KK hK => ?_) AllReadyH.nil)
     ·clear hHeld
      have k0 := Z_3.out.d.cell 2
      simp only [xg, xh, xi] at k0
      go_simp
      refine hK.out _ _ trivial (fun hHeld => ?_)
      clear hK KK k0
      try simp only [Act.put, xa, xb, xc, xd, xe, xf]
      refine wpAnyH_ready (rs := [7, 11]) (by kernel_rfl) (by simp) ?_
      refine AllReadyH.cons rfl (fun KK hK => ?_) (AllReadyH.cons rfl (fun KK hK => ?_) AllReadyH.nil)
      ·clear hHeld
       obtain ⟨y2, d2, v4, hr, hz, h3⟩ := Z_3.out.run2 A_3.out rfl (by omega)
       rw [if_pos (show _ = true by kernel_rfl)]
       unfold Oper.wp execOp
       simp only [resolve, invoke, builtin, Sem.run_bind, Sem.run_pure, Result.andThen_ok, List.map_toArray, List.map_cons, List.map_nil, Act.eval, xa, xb, xc]
       simp only [Array.getD_eq_getD_getElem?, xg, xh, xi, Option.getD_some, hr, Result.andThen_ok, Oper.upon]
       refine hK.out _ _ trivial (fun hHeld => ?_)
       clear hK KK hr
       try simp only [Act.put, xa, xb, xc, xd, xe, xf]
       have Z_4 := Lib.hid hz
       have C_4 := Lib.hid (C_3.out.grown Z_3.out.o2 (.inr (fun k e => by have := HO2L.out k e; have := LC.out; omega)) h3)
       clear Z_3 C_3 A_3 hz h3
       have hHeld : True := trivial
       refine wpAnyH_ready (rs := [11]) (by kernel_rfl) (by simp) ?_
       refine AllReadyH.cons rfl (fun KK hK => ?_) AllReadyH.nil
       clear hHeld
       have k0 := Z_4.out.d.cell 4
       simp only [xg, xh, xi] at k0
       go_simp
       refine hK.out _ _ trivial (fun hHeld => ?_)
       clear hK KK k0
       try simp only [Act.put, xa, xb, xc, xd, xe, xf]
       refine wpAnyH_ready (rs := [14]) (by kernel_rfl) (by simp) ?_
       refine AllReadyH.cons rfl (fun KK hK => ?_) AllReadyH.nil
       clear hHeld
       obtain ⟨y4, d4, v5, hr, hz, h3⟩ := Z_4.out.run4 C_4.out rfl (by omega)
       rw [if_pos (show _ = true by kernel_rfl)]
       unfold Oper.wp execOp
       simp only [resolve, invoke, builtin, Sem.run_bind, Sem.run_pure, Result.andThen_ok, List.map_toArray, List.map_cons, List.map_nil, Act.eval, xa, xb, xc]
       simp only [Array.getD_eq_getD_getElem?, xg, xh, xi, Option.getD_some, hr, Result.andThen_ok, Oper.upon]
       refine hK.out _ _ trivial (fun hHeld => ?_)
       clear hK KK hr
       try simp only [Act.put, xa, xb, xc, xd, xe, xf]
       have Z_5 := Lib.hid hz
       clear Z_4 C_4 hz h3
       have hHeld : True := trivial
       refine wpAnyH_take (i := 15) (v := ?_) rfl (by kernel_rfl) (by kernel_rfl) (by kernel_rfl) (fun _ _ _ h => h) (Or.inl ⟨by kernel_rfl, ?_⟩) hHeld ?_
       rotate_left
       ·intro w hSw
        (try dsimp only at hSw)
        go_split_ands
        go_simp
        (try with_reducible rfl)
       try simp only [Act.put, xa, xb, xc, xd, xe, xf]
       refine wpAnyH_take (i := 16) (v := ?_) rfl (by kernel_rfl) (by kernel_rfl) (by kernel_rfl) (fun _ _ _ h => h) (Or.inl ⟨by kernel_rfl, ?_⟩) hHeld ?_
       rotate_left
       ·intro w hSw
        (try dsimp only at hSw)
        go_split_ands
        go_simp
        (try with_reducible rfl)
       try simp only [Act.put, xa, xb, xc, xd, xe, xf]
       refine wpAnyH_ready (rs := [17]) (by kernel_rfl) (by simp) ?_
       refine AllReadyH.cons rfl (fun KK hK => ?_) AllReadyH.nil
       clear hHeld
       have k0 := Z_5.out.d.cell 2
       have f0 := Z_5.out.d.frozen 2
       simp only [xg, xh, xi] at k0
       go_simp
       refine hK.out _ _ trivial (fun hHeld => ?_)
       clear hK KK k0 f0 hHeld
       try simp only [Act.put, xa, xb, xc, xd, xe, xf]
       refine anyH_world (fun wz => FX w4 wr wz B D Wb la lc cb _ _ _ _ _ _ _ _) (Z_5.out.st2 (.slice y2 (i + 1) d2)) ?_
       rintro v6 hz
       have Z_6 := Lib.hid hz
       clear hz Z_5
       have hHeld : True := trivial
       refine wpAnyH_take (i := 18) (v := ?_) rfl (by kernel_rfl) (by kernel_rfl) (by kernel_rfl) (fun _ _ _ h => h) (Or.inl ⟨by kernel_rfl, ?_⟩) hHeld ?_
       rotate_left
       ·intro w hSw
        (try dsimp only at hSw)
        go_split_ands
        go_simp
        (try with_reducible rfl)
       try simp only [Act.put, xa, xb, xc, xd, xe, xf]
       refine wpAnyH_take (i := 19) (v := ?_) rfl (by kernel_rfl) (by kernel_rfl) (by kernel_rfl) (fun _ _ _ h => h) (Or.inl ⟨by kernel_rfl, ?_⟩) hHeld ?_
       rotate_left
       ·intro w hSw
        (try dsimp only at hSw)
        go_split_ands
        go_simp
        (try with_reducible rfl)
       try simp only [Act.put, xa, xb, xc, xd, xe, xf]
       refine wpAnyH_ready (rs := [20]) (by kernel_rfl) (by simp) ?_
       refine AllReadyH.cons rfl (fun KK hK => ?_) AllReadyH.nil
       clear hHeld
       have k0 := Z_6.out.d.cell 4
       have f0 := Z_6.out.d.frozen 4
       simp only [xg, xh, xi] at k0
       go_simp
       refine hK.out _ _ trivial (fun hHeld => ?_)
       clear hK KK k0 f0 hHeld
       try simp only [Act.put, xa, xb, xc, xd, xe, xf]
       refine anyH_world (fun wz => FX w4 wr wz B D Wb la lc cb _ _ _ _ _ _ _ _) (Z_6.out.st4 (.slice y4 (i + 1) d4)) ?_
       rintro v7 hz
       have Z_7 := Lib.hid hz
       clear hz Z_6
       have hHeld : True := trivial
       refine wpAnyH_done (by kernel_rfl) ?_ _
       clear hHeld
       go_wp2_with fail
       refine ⟨⟨i + 1, rfl, by omega, Lib.hid (fix_end Z_7.out.k Z_7.out.d Z_7.out.o2 Z_7.out.o4)⟩, by simp [intOf]; omega⟩
      ·clear hHeld
       have k0 := Z_3.out.d.cell 4
       simp only [xg, xh, xi] at k0
       go_simp
       refine hK.out _ _ trivial (fun hHeld => ?_)
       clear hK KK k0
       try simp only [Act.put, xa, xb, xc, xd, xe, xf]
       refine wpAnyH_ready (rs := [7]) (by kernel_rfl) (by simp) ?_
       refine AllReadyH.cons rfl (fun KK hK => ?_) AllReadyH.nil
       clear hHeld
       obtain ⟨y2, d2, v4, hr, hz, h3⟩ := Z_3.out.run2 A_3.out rfl (by omega)
       rw [if_pos (show _ = true by kernel_rfl)]
       unfold Oper.wp execOp
       simp only [resolve, invoke, builtin, Sem.run_bind, Sem.run_pure, Result.andThen_ok, List.map_toArray, List.map_cons, List.map_nil, Act.eval, xa, xb, xc]
       simp only [Array.getD_eq_getD_getElem?, xg, xh, xi, Option.getD_some, hr, Result.andThen_ok, Oper.upon]
       refine hK.out _ _ trivial (fun hHeld => ?_)
       clear hK KK hr
       try simp only [Act.put, xa, xb, xc, xd, xe, xf]
       have Z_4 := Lib.hid hz
       have C_4 := Lib.hid (C_3.out.grown Z_3.out.o2 (.inr (fun k e => by have := HO2L.out k e; have := LC.out; omega)) h3)
       clear Z_3 C_3 A_3 hz h3
       have hHeld : True := trivial
       refine wpAnyH_ready (rs := [14]) (by kernel_rfl) (by simp) ?_
       refine AllReadyH.cons rfl (fun KK hK => ?_) AllReadyH.nil
       clear hHeld
       obtain ⟨y4, d4, v5, hr, hz, h3⟩ := Z_4.out.run4 C_4.out rfl (by omega)
       rw [if_pos (show _ = true by kernel_rfl)]
       unfold Oper.wp execOp
       simp only [resolve, invoke, builtin, Sem.run_bind, Sem.run_pure, Result.andThen_ok, List.map_toArray, List.map_cons, List.map_nil, Act.eval, xa, xb, xc]
       simp only [Array.getD_eq_getD_getElem?, xg, xh, xi, Option.getD_some, hr, Result.andThen_ok, Oper.upon]
       refine hK.out _ _ trivial (fun hHeld => ?_)
       clear hK KK hr
       try simp only [Act.put, xa, xb, xc, xd, xe, xf]
       have Z_5 := Lib.hid hz
       clear Z_4 C_4 hz h3
       have hHeld : True := trivial
       refine wpAnyH_take (i := 15) (v := ?_) rfl (by kernel_rfl) (by kernel_rfl) (by kernel_rfl) (fun _ _ _ h => h) (Or.inl ⟨by kernel_rfl, ?_⟩) hHeld ?_
       rotate_left
       ·intro w hSw
        (try dsimp only at hSw)
        go_split_ands
        go_simp
        (try with_reducible rfl)
       try simp only [Act.put, xa, xb, xc, xd, xe, xf]
       refine wpAnyH_take (i := 16) (v := ?_) rfl (by kernel_rfl) (by kernel_rfl) (by kernel_rfl) (fun _ _ _ h => h) (Or.inl ⟨by kernel_rfl, ?_⟩) hHeld ?_
       rotate_left
       ·intro w hSw
        (try dsimp only at hSw)
        go_split_ands
        go_simp
        (try with_reducible rfl)
       try simp only [Act.put, xa, xb, xc, xd, xe, xf]
       refine wpAnyH_ready (rs := [17]) (by kernel_rfl) (by simp) ?_
       refine AllReadyH.cons rfl (fun KK hK => ?_) AllReadyH.nil
       clear hHeld
       have k0 := Z_5.out.d.cell 2
       have f0 := Z_5.out.d.frozen 2
       simp only [xg, xh, xi] at k0
       go_simp
       refine hK.out _ _ trivial (fun hHeld => ?_)
       clear hK KK k0 f0 hHeld
       try simp only [Act.put, xa, xb, xc, xd, xe, xf]
       refine anyH_world (fun wz => FX w4 wr wz B D Wb la lc cb _ _ _ _ _ _ _ _) (Z_5.out.st2 (.slice y2 (i + 1) d2)) ?_
       rintro v6 hz
       have Z_6 := Lib.hid hz
       clear hz Z_5
       have hHeld : True := trivial
       refine wpAnyH_take (i := 18) (v := ?_) rfl (by kernel_rfl) (by kernel_rfl) (by kernel_rfl) (fun _ _ _ h => h) (Or.inl ⟨by kernel_rfl, ?_⟩) hHeld ?_
       rotate_left
       ·intro w hSw
        (try dsimp only at hSw)
        go_split_ands
        go_simp
        (try with_reducible rfl)
       try simp only [Act.put, xa, xb, xc, xd, xe, xf]
       refine wpAnyH_take (i := 19) (v := ?_) rfl (by kernel_rfl) (by kernel_rfl) (by kernel_rfl) (fun _ _ _ h => h) (Or.inl ⟨by kernel_rfl, ?_⟩) hHeld ?_
       rotate_left
       ·intro w hSw
        (try dsimp only at hSw)
        go_split_ands
        go_simp
        (try with_reducible rfl)
       try simp only [Act.put, xa, xb, xc, xd, xe, xf]
       refine wpAnyH_ready (rs := [20]) (by kernel_rfl) (by simp) ?_
       refine AllReadyH.cons rfl (fun KK hK => ?_) AllReadyH.nil
       clear hHeld
       have k0 := Z_6.out.d.cell 4
       have f0 := Z_6.out.d.frozen 4
       simp only [xg, xh, xi] at k0
       go_simp
       refine hK.out _ _ trivial (fun hHeld => ?_)
       clear hK KK k0 f0 hHeld
       try simp only [Act.put, xa, xb, xc, xd, xe, xf]
       refine anyH_world (fun wz => FX w4 wr wz B D Wb la lc cb _ _ _ _ _ _ _ _) (Z_6.out.st4 (.slice y4 (i + 1) d4)) ?_
       rintro v7 hz
       have Z_7 := Lib.hid hz
       clear hz Z_6
       have hHeld : True := trivial
       refine wpAnyH_done (by kernel_rfl) ?_ _
       clear hHeld
       go_wp2_with fail
       refine ⟨⟨i + 1, rfl, by omega, Lib.hid (fix_end Z_7.out.k Z_7.out.d Z_7.out.o2 Z_7.out.o4)⟩, by simp [intOf]; omega⟩
     ·clear hHeld
      have k0 := Z_3.out.d.cell 4
      simp only [xg, xh, xi] at k0
      go_simp
      refine hK.out _ _ trivial (fun hHeld => ?_)
      clear hK KK k0
      try simp only [Act.put, xa, xb, xc, xd, xe, xf]
      refine wpAnyH_ready (rs := [5]) (by kernel_rfl) (by simp) ?_
      refine AllReadyH.cons rfl (fun KK hK => ?_) AllReadyH.nil
      clear hHeld
      have k0 := Z_3.out.d.cell 2
      simp only [xg, xh, xi] at k0
      go_simp
      refine hK.out _ _ trivial (fun hHeld => ?_)
      clear hK KK k0
      try simp only [Act.put, xa, xb, xc, xd, xe, xf]
      refine wpAnyH_ready (rs := [7]) (by kernel_rfl) (by simp) ?_
      refine AllReadyH.cons rfl (fun KK hK => ?_) AllReadyH.nil
      clear hHeld
      obtain ⟨y2, d2, v4, hr, hz, h3⟩ := Z_3.out.run2 A_3.out rfl (by omega)
      rw [if_pos (show _ = true by kernel_rfl)]
      unfold Oper.wp execOp
      simp only [resolve, invoke, builtin, Sem.run_bind, Sem.run_pure, Result.andThen_ok, List.map_toArray, List.map_cons, List.map_nil, Act.eval, xa, xb, xc]
      simp only [Array.getD_eq_getD_getElem?, xg, xh, xi, Option.getD_some, hr, Result.andThen_ok, Oper.upon]
      refine hK.out _ _ trivial (fun hHeld => ?_)
      clear hK KK hr
      try simp only [Act.put, xa, xb, xc, xd, xe, xf]
      have Z_4 := Lib.hid hz
      have C_4 := Lib.hid (C_3.out.grown Z_3.out.o2 (.inr (fun k e => by have := HO2L.out k e; have := LC.out; omega)) h3)
      clear Z_3 C_3 A_3 hz h3
      have hHeld : True := trivial
      refine wpAnyH_ready (rs := [14]) (by kernel_rfl) (by simp) ?_
      refine AllReadyH.cons rfl (fun KK hK => ?_) AllReadyH.nil
      clear hHeld
      obtain ⟨y4, d4, v5, hr, hz, h3⟩ := Z_4.out.run4 C_4.out rfl (by omega)
      rw [if_pos (show _ = true by kernel_rfl)]
      unfold Oper.wp execOp
      simp only [resolve, invoke, builtin, Sem.run_bind, Sem.run_pure, Result.andThen_ok, List.map_toArray, List.map_cons, List.map_nil, Act.eval, xa, xb, xc]
      simp only [Array.getD_eq_getD_getElem?, xg, xh, xi, Option.getD_some, hr, Result.andThen_ok, Oper.upon]
      refine hK.out _ _ trivial (fun hHeld => ?_)
      clear hK KK hr
      try simp only [Act.put, xa, xb, xc, xd, xe, xf]
      have Z_5 := Lib.hid hz
      clear Z_4 C_4 hz h3
      have hHeld : True := trivial
      refine wpAnyH_take (i := 15) (v := ?_) rfl (by kernel_rfl) (by kernel_rfl) (by kernel_rfl) (fun _ _ _ h => h) (Or.inl ⟨by kernel_rfl, ?_⟩) hHeld ?_
      rotate_left
      ·intro w hSw
       (try dsimp only at hSw)
       go_split_ands
       go_simp
       (try with_reducible rfl)
      try simp only [Act.put, xa, xb, xc, xd, xe, xf]
      refine wpAnyH_take (i := 16) (v := ?_) rfl (by kernel_rfl) (by kernel_rfl) (by kernel_rfl) (fun _ _ _ h => h) (Or.inl ⟨by kernel_rfl, ?_⟩) hHeld ?_
      rotate_left
      ·intro w hSw
       (try dsimp only at hSw)
       go_split_ands
       go_simp
       (try with_reducible rfl)
      try simp only [Act.put, xa, xb, xc, xd, xe, xf]
      refine wpAnyH_ready (rs := [17]) (by kernel_rfl) (by simp) ?_
      refine AllReadyH.cons rfl (fun KK hK => ?_) AllReadyH.nil
      clear hHeld
      have k0 := Z_5.out.d.cell 2
      have f0 := Z_5.out.d.frozen 2
      simp only [xg, xh, xi] at k0
      go_simp
      refine hK.out _ _ trivial (fun hHeld => ?_)
      clear hK KK k0 f0 hHeld
      try simp only [Act.put, xa, xb, xc, xd, xe, xf]
      refine anyH_world (fun wz => FX w4 wr wz B D Wb la lc cb _ _ _ _ _ _ _ _) (Z_5.out.st2 (.slice y2 (i + 1) d2)) ?_
      rintro v6 hz
      have Z_6 := Lib.hid hz
      clear hz Z_5
      have hHeld : True := trivial
      refine wpAnyH_take (i := 18) (v := ?_) rfl (by kernel_rfl) (by kernel_rfl) (by kernel_rfl) (fun _ _ _ h => h) (Or.inl ⟨by kernel_rfl, ?_⟩) hHeld ?_
      rotate_left
      ·intro w hSw
       (try dsimp only at hSw)
       go_split_ands
       go_simp
       (try with_reducible rfl)
      try simp only [Act.put, xa, xb, xc, xd, xe, xf]
      refine wpAnyH_take (i := 19) (v := ?_) rfl (by kernel_rfl) (by kernel_rfl) (by kernel_rfl) (fun _ _ _ h => h) (Or.inl ⟨by kernel_rfl, ?_⟩) hHeld ?_
      rotate_left
      ·intro w hSw
       (try dsimp only at hSw)
       go_split_ands
       go_simp
       (try with_reducible rfl)
      try simp only [Act.put, xa, xb, xc, xd, xe, xf]
      refine wpAnyH_ready (rs := [20]) (by kernel_rfl) (by simp) ?_
      refine AllReadyH.cons rfl (fun KK hK => ?_) AllReadyH.nil
      clear hHeld
      have k0 := Z_6.out.d.cell 4
      have f0 := Z_6.out.d.frozen 4
      simp only [xg, xh, xi] at k0
      go_simp
      refine hK.out _ _ trivial (fun hHeld => ?_)
      clear hK KK k0 f0 hHeld
      try simp only [Act.put, xa, xb, xc, xd, xe, xf]
      refine anyH_world (fun wz => FX w4 wr wz B D Wb la lc cb _ _ _ _ _ _ _ _) (Z_6.out.st4 (.slice y4 (i + 1) d4)) ?_
      rintro v7 hz
      have Z_7 := Lib.hid hz
      clear hz Z_6
      have hHeld : True := trivial
      refine wpAnyH_done (by kernel_rfl) ?_ _
      clear hHeld
      go_wp2_with fail
      refine ⟨⟨i + 1, rfl, by omega, Lib.hid (fix_end Z_7.out.k Z_7.out.d Z_7.out.o2 Z_7.out.o4)⟩, by simp [intOf]; omega⟩
    ·clear hHeld
     have k0 := Z_2.out.d.cell 4
     simp only [xg, xh, xi] at k0
     go_simp
     refine hK.out _ _ trivial (fun hHeld => ?_)
     clear hK KK k0
     try simp only [Act.put, xa, xb, xc, xd, xe, xf]
     refine wpAnyH_ready (rs := [5, 6]) (by kernel_rfl) (by simp) ?_
     refine AllReadyH.cons rfl (fun KK hK => ?_) (AllReadyH.cons rfl (fun KK hK => ?_) AllReadyH.nil)
     ·clear hHeld
      have k0 := Z_2.out.d.cell 2
      simp only [xg, xh, xi] at k0
      go_simp
      refine hK.out _ _ trivial (fun hHeld => ?_)
      clear hK KK k0
      try simp only [Act.put, xa, xb, xc, xd, xe, xf]
      refine wpAnyH_ready (rs := [6]) (by kernel_rfl) (by simp) ?_
      refine AllReadyH.cons rfl (fun KK hK => ?_) AllReadyH.nil
      clear hHeld
      go_simp
      refine hK.out _ _ trivial (fun hHeld => ?_)
      clear hK KK hHeld
      try simp only [Act.put, xa, xb, xc, xd, xe, xf]
      refine anyH_world (fun wz => Ext v2 wz ∧ Bk wz v2.heap.size #[.int .i64 5]) ⟨(Ext.refl v2).alloc _, Bk.at rfl⟩ ?_
      rintro v3 ⟨hE, hB⟩
      obtain ⟨Ab, hb⟩ : ∃ q, v2.heap.size = q := ⟨_, rfl⟩
      rw [hb] at hB
      try rw [hb]
      have LA := Lib.hid (show wr.heap.size ≤ Ab from hb ▸ Z_2.out.sz)
      have Z_3 := Lib.hid (Z_2.out.ext hE)
      have C_3 := Lib.hid (C_2.out.ext hE)
      clear hE hb Z_2 C_2
      have A_3 := Lib.hid (hB)
      clear hB
      have hHeld : True := trivial
      refine wpAnyH_ready (rs := [7]) (by kernel_rfl) (by simp) ?_
      refine AllReadyH.cons rfl (fun KK hK => ?_) AllReadyH.nil
      clear hHeld
      obtain ⟨y2, d2, v4, hr, hz, h3⟩ := Z_3.out.run2 A_3.out rfl (by omega)
      rw [if_pos (show _ = true by kernel_rfl)]
      unfold Oper.wp execOp
      simp only [resolve, invoke, builtin, Sem.run_bind, Sem.run_pure, Result.andThen_ok, List.map_toArray, List.map_cons, List.map_nil, Act.eval, xa, xb, xc]
      simp only [Array.getD_eq_getD_getElem?, xg, xh, xi, Option.getD_some, hr, Result.andThen_ok, Oper.upon]
      refine hK.out _ _ trivial (fun hHeld => ?_)
      clear hK KK hr
      try simp only [Act.put, xa, xb, xc, xd, xe, xf]
      have Z_4 := Lib.hid hz
      have C_4 := Lib.hid (C_3.out.grown Z_3.out.o2 (.inr (fun k e => by have := HO2L.out k e; have := LC.out; omega)) h3)
      clear Z_3 C_3 A_3 hz h3
      have hHeld : True := trivial
      refine wpAnyH_ready (rs := [14]) (by kernel_rfl) (by simp) ?_
      refine AllReadyH.cons rfl (fun KK hK => ?_) AllReadyH.nil
      clear hHeld
      obtain ⟨y4, d4, v5, hr, hz, h3⟩ := Z_4.out.run4 C_4.out rfl (by omega)
      rw [if_pos (show _ = true by kernel_rfl)]
      unfold Oper.wp execOp
      simp only [resolve, invoke, builtin, Sem.run_bind, Sem.run_pure, Result.andThen_ok, List.map_toArray, List.map_cons, List.map_nil, Act.eval, xa, xb, xc]
      simp only [Array.getD_eq_getD_getElem?, xg, xh, xi, Option.getD_some, hr, Result.andThen_ok, Oper.upon]
      refine hK.out _ _ trivial (fun hHeld => ?_)
      clear hK KK hr
      try simp only [Act.put, xa, xb, xc, xd, xe, xf]
      have Z_5 := Lib.hid hz
      clear Z_4 C_4 hz h3
      have hHeld : True := trivial
      refine wpAnyH_take (i := 15) (v := ?_) rfl (by kernel_rfl) (by kernel_rfl) (by kernel_rfl) (fun _ _ _ h => h) (Or.inl ⟨by kernel_rfl, ?_⟩) hHeld ?_
      rotate_left
      ·intro w hSw
       (try dsimp only at hSw)
       go_split_ands
       go_simp
       (try with_reducible rfl)
      try simp only [Act.put, xa, xb, xc, xd, xe, xf]
      refine wpAnyH_take (i := 16) (v := ?_) rfl (by kernel_rfl) (by kernel_rfl) (by kernel_rfl) (fun _ _ _ h => h) (Or.inl ⟨by kernel_rfl, ?_⟩) hHeld ?_
      rotate_left
      ·intro w hSw
       (try dsimp only at hSw)
       go_split_ands
       go_simp
       (try with_reducible rfl)
      try simp only [Act.put, xa, xb, xc, xd, xe, xf]
      refine wpAnyH_ready (rs := [17]) (by kernel_rfl) (by simp) ?_
      refine AllReadyH.cons rfl (fun KK hK => ?_) AllReadyH.nil
      clear hHeld
      have k0 := Z_5.out.d.cell 2
      have f0 := Z_5.out.d.frozen 2
      simp only [xg, xh, xi] at k0
      go_simp
      refine hK.out _ _ trivial (fun hHeld => ?_)
      clear hK KK k0 f0 hHeld
      try simp only [Act.put, xa, xb, xc, xd, xe, xf]
      refine anyH_world (fun wz => FX w4 wr wz B D Wb la lc cb _ _ _ _ _ _ _ _) (Z_5.out.st2 (.slice y2 (i + 1) d2)) ?_
      rintro v6 hz
      have Z_6 := Lib.hid hz
      clear hz Z_5
      have hHeld : True := trivial
      refine wpAnyH_take (i := 18) (v := ?_) rfl (by kernel_rfl) (by kernel_rfl) (by kernel_rfl) (fun _ _ _ h => h) (Or.inl ⟨by kernel_rfl, ?_⟩) hHeld ?_
      rotate_left
      ·intro w hSw
       (try dsimp only at hSw)
       go_split_ands
       go_simp
       (try with_reducible rfl)
      try simp only [Act.put, xa, xb, xc, xd, xe, xf]
      refine wpAnyH_take (i := 19) (v := ?_) rfl (by kernel_rfl) (by kernel_rfl) (by kernel_rfl) (fun _ _ _ h => h) (Or.inl ⟨by kernel_rfl, ?_⟩) hHeld ?_
      rotate_left
      ·intro w hSw
       (try dsimp only at hSw)
       go_split_ands
       go_simp
       (try with_reducible rfl)
      try simp only [Act.put, xa, xb, xc, xd, xe, xf]
      refine wpAnyH_ready (rs := [20]) (by kernel_rfl) (by simp) ?_
      refine AllReadyH.cons rfl (fun KK hK => ?_) AllReadyH.nil
      clear hHeld
      have k0 := Z_6.out.d.cell 4
      have f0 := Z_6.out.d.frozen 4
      simp only [xg, xh, xi] at k0
      go_simp
      refine hK.out _ _ trivial (fun hHeld => ?_)
      clear hK KK k0 f0 hHeld
      try simp only [Act.put, xa, xb, xc, xd, xe, xf]
      refine anyH_world (fun wz => FX w4 wr wz B D Wb la lc cb _ _ _ _ _ _ _ _) (Z_6.out.st4 (.slice y4 (i + 1) d4)) ?_
      rintro v7 hz
      have Z_7 := Lib.hid hz
      clear hz Z_6
      have hHeld : True := trivial
      refine wpAnyH_done (by kernel_rfl) ?_ _
      clear hHeld
      go_wp2_with fail
      refine ⟨⟨i + 1, rfl, by omega, Lib.hid (fix_end Z_7.out.k Z_7.out.d Z_7.out.o2 Z_7.out.o4)⟩, by simp [intOf]; omega⟩
     ·clear hHeld
      go_simp
      refine hK.out _ _ trivial (fun hHeld => ?_)
      clear hK KK hHeld
      try simp only [Act.put, xa, xb, xc, xd, xe, xf]
      refine anyH_world (fun wz => Ext v2 wz ∧ Bk wz v2.heap.size #[.int .i64 5]) ⟨(Ext.refl v2).alloc _, Bk.at rfl⟩ ?_
      rintro v3 ⟨hE, hB⟩
      obtain ⟨Ab, hb⟩ : ∃ q, v2.heap.size = q := ⟨_, rfl⟩
      rw [hb] at hB
      try rw [hb]
      have LA := Lib.hid (show wr.heap.size ≤ Ab from hb ▸ Z_2.out.sz)
      have Z_3 := Lib.hid (Z_2.out.ext hE)
      have C_3 := Lib.hid (C_2.out.ext hE)
      clear hE hb Z_2 C_2
      have A_3 := Lib.hid (hB)
      clear hB
      have hHeld : True := trivial
      refine wpAnyH_ready (rs := [5]) (by kernel_rfl) (by simp) ?_
      refine AllReadyH.cons rfl (fun KK hK => ?_) AllReadyH.nil
      clear hHeld
      have k0 := Z_3.out.d.cell 2
      simp only [xg, xh, xi] at k0
      go_simp
      refine hK.out _ _ trivial (fun hHeld => ?_)
      clear hK KK k0
      try simp only [Act.put, xa, xb, xc, xd, xe, xf]
      refine wpAnyH_ready (rs := [7]) (by kernel_rfl) (by simp) ?_
      refine AllReadyH.cons rfl (fun KK hK => ?_) AllReadyH.nil
      clear hHeld
      obtain ⟨y2, d2, v4, hr, hz, h3⟩ := Z_3.out.run2 A_3.out rfl (by omega)
      rw [if_pos (show _ = true by kernel_rfl)]
      unfold Oper.wp execOp
      simp only [resolve, invoke, builtin, Sem.run_bind, Sem.run_pure, Result.andThen_ok, List.map_toArray, List.map_cons, List.map_nil, Act.eval, xa, xb, xc]
      simp only [Array.getD_eq_getD_getElem?, xg, xh, xi, Option.getD_some, hr, Result.andThen_ok, Oper.upon]
      refine hK.out _ _ trivial (fun hHeld => ?_)
      clear hK KK hr
      try simp only [Act.put, xa, xb, xc, xd, xe, xf]
      have Z_4 := Lib.hid hz
      have C_4 := Lib.hid (C_3.out.grown Z_3.out.o2 (.inr (fun k e => by have := HO2L.out k e; have := LC.out; omega)) h3)
      clear Z_3 C_3 A_3 hz h3
      have hHeld : True := trivial
      refine wpAnyH_ready (rs := [14]) (by kernel_rfl) (by simp) ?_
      refine AllReadyH.cons rfl (fun KK hK => ?_) AllReadyH.nil
      clear hHeld
      obtain ⟨y4, d4, v5, hr, hz, h3⟩ := Z_4.out.run4 C_4.out rfl (by omega)
      rw [if_pos (show _ = true by kernel_rfl)]
      unfold Oper.wp execOp
      simp only [resolve, invoke, builtin, Sem.run_bind, Sem.run_pure, Result.andThen_ok, List.map_toArray, List.map_cons, List.map_nil, Act.eval, xa, xb, xc]
      simp only [Array.getD_eq_getD_getElem?, xg, xh, xi, Option.getD_some, hr, Result.andThen_ok, Oper.upon]
      refine hK.out _ _ trivial (fun hHeld => ?_)
      clear hK KK hr
      try simp only [Act.put, xa, xb, xc, xd, xe, xf]
      have Z_5 := Lib.hid hz
      clear Z_4 C_4 hz h3
      have hHeld : True := trivial
      refine wpAnyH_take (i := 15) (v := ?_) rfl (by kernel_rfl) (by kernel_rfl) (by kernel_rfl) (fun _ _ _ h => h) (Or.inl ⟨by kernel_rfl, ?_⟩) hHeld ?_
      rotate_left
      ·intro w hSw
       (try dsimp only at hSw)
       go_split_ands
       go_simp
       (try with_reducible rfl)
      try simp only [Act.put, xa, xb, xc, xd, xe, xf]
      refine wpAnyH_take (i := 16) (v := ?_) rfl (by kernel_rfl) (by kernel_rfl) (by kernel_rfl) (fun _ _ _ h => h) (Or.inl ⟨by kernel_rfl, ?_⟩) hHeld ?_
      rotate_left
      ·intro w hSw
       (try dsimp only at hSw)
       go_split_ands
       go_simp
       (try with_reducible rfl)
      try simp only [Act.put, xa, xb, xc, xd, xe, xf]
      refine wpAnyH_ready (rs := [17]) (by kernel_rfl) (by simp) ?_
      refine AllReadyH.cons rfl (fun KK hK => ?_) AllReadyH.nil
      clear hHeld
      have k0 := Z_5.out.d.cell 2
      have f0 := Z_5.out.d.frozen 2
      simp only [xg, xh, xi] at k0
      go_simp
      refine hK.out _ _ trivial (fun hHeld => ?_)
      clear hK KK k0 f0 hHeld
      try simp only [Act.put, xa, xb, xc, xd, xe, xf]
      refine anyH_world (fun wz => FX w4 wr wz B D Wb la lc cb _ _ _ _ _ _ _ _) (Z_5.out.st2 (.slice y2 (i + 1) d2)) ?_
      rintro v6 hz
      have Z_6 := Lib.hid hz
      clear hz Z_5
      have hHeld : True := trivial
      refine wpAnyH_take (i := 18) (v := ?_) rfl (by kernel_rfl) (by kernel_rfl) (by kernel_rfl) (fun _ _ _ h => h) (Or.inl ⟨by kernel_rfl, ?_⟩) hHeld ?_
      rotate_left
      ·intro w hSw
       (try dsimp only at hSw)
       go_split_ands
       go_simp
       (try with_reducible rfl)
      try simp only [Act.put, xa, xb, xc, xd, xe, xf]
      refine wpAnyH_take (i := 19) (v := ?_) rfl (by kernel_rfl) (by kernel_rfl) (by kernel_rfl) (fun _ _ _ h => h) (Or.inl ⟨by kernel_rfl, ?_⟩) hHeld ?_
      rotate_left
      ·intro w hSw
       (try dsimp only at hSw)
       go_split_ands
       go_simp
       (try with_reducible rfl)
      try simp only [Act.put, xa, xb, xc, xd, xe, xf]
      refine wpAnyH_ready (rs := [20]) (by kernel_rfl) (by simp) ?_
      refine AllReadyH.cons rfl (fun KK hK => ?_) AllReadyH.nil
      clear hHeld
      have k0 := Z_6.out.d.cell 4
      have f0 := Z_6.out.d.frozen 4
      simp only [xg, xh, xi] at k0
      go_simp
      refine hK.out _ _ trivial (fun hHeld => ?_)
      clear hK KK k0 f0 hHeld
      try simp only [Act.put, xa, xb, xc, xd, xe, xf]
      refine anyH_world (fun wz => FX w4 wr wz B D Wb la lc cb _ _ _ _ _ _ _ _) (Z_6.out.st4 (.slice y4 (i + 1) d4)) ?_
      rintro v7 hz
      have Z_7 := Lib.hid hz
      clear hz Z_6
      have hHeld : True := trivial
      refine wpAnyH_done (by kernel_rfl) ?_ _
      clear hHeld
      go_wp2_with fail
      refine ⟨⟨i + 1, rfl, by omega, Lib.hid (fix_end Z_7.out.k Z_7.out.d Z_7.out.o2 Z_7.out.o4)⟩, by simp [intOf]; omega⟩
  ·have t0 : decide ((i : Int) < 32) = false := decide_eq_false (by omega)
   obtain rfl : i = 32 := by omega
   have hF := HF.out
   obtain ⟨da, dc, ea, ec, hDF, hd1, hd2, he1, he2⟩ := hF.df HBe.out HL4.out HLD.out HC4.out HCD.out (by have := hcs_lt HC4.out (by decide); have := HBe.out; omega)
   have hX : Keeps (fun k => k = D) w4 wr := by obtain ⟨_, _, _, _, hX, _⟩ := hF; exact hX
   have hW := wb_start (HW4.out.keeps hX (show ¬ Wb = D by have := HWD.out; omega))
   have hBW : B ≤ wr.heap.size := by have := hX.size; have := HBe.out; omega
   have HXr := Lib.hid (show Ext w wr from Below.trans HX4.out (hX.below (B := w.heap.size) HX4.out.size (fun k hk e => by have e : k = D := e; have := HWb.out; have := HWD.out; omega)))
   have HDF := Lib.hid hDF
   have HW := Lib.hid hW
   have HDA := Lib.hid (And.intro hd1 he1)
   have HBW := Lib.hid hBW
   have k0 := hDF.c0
   clear hF hd1 hd2 he1 he2 hX hW hBW hDF HF HX4 HL4 HW4 HC4 HD4
   go_wp2_with fail
   refine (putB_any Wb 3 3 _ [] wr HW.out (by decide) (by decide) (by decide)).mono ?_
   rintro e w5 ⟨rfl, u1, hW5, hS5⟩
   have hkeep : ∀ w6, Keeps (fun k => k = Wb ∨ u1.ownBlock = some k) w5 w6 → Keeps (fun k => k = Wb) wr w6 := fun w6 h6 => by
    refine Keeps.trans (hS5.keeps.mono (S' := fun k => k = Wb) (fun k _ q => ?_)) h6 (fun k hk q => ?_)
    ·rcases q with q | q
     ·exact q
     ·simp [Value.ownBlock] at q
    ·rcases q with q | q
     ·exact q
     ·rcases hS5.new k q with q | q
      ·simp [Value.ownBlock] at q
      ·omega
   have hext : ∀ w6, Keeps (fun k => k = Wb) wr w6 → Ext w w6 := fun w6 h6 => Below.trans HXr.out (h6.below (B := w.heap.size) HXr.out.size (fun k hk e => by have e : k = Wb := e; have := HWb.out; omega))
   have hbase : ∀ w6, Keeps (fun k => k = Wb ∨ u1.ownBlock = some k) w5 w6 → Base w6 D Wb la da ⟨cb, 0, none⟩ ea 288 lc 32 dc 288 ec Inf.fixF Inf.fiveF x n tk := fun w6 h6 => by
    have h7 := hkeep w6 h6
    have hq := HWD.out
    have := HLD.out
    have := HCD.out
    have := HDA.out
    have := HDB.out
    have := HLW.out
    exact ⟨HDF.out.keeps h7 (show ¬ D = Wb by omega) (show ¬ la.block = Wb by omega) (show ¬ da.block = Wb by omega) (show ¬ cb = Wb by omega) (show ¬ ea.block = Wb by omega), HT.out.ext (hext w6 h7), HTb.out.ext (hext w6 h7)⟩
   have HK := Lib.hid hkeep
   have HE := Lib.hid hext
   have HBs := Lib.hid hbase
   have HW5 := Lib.hid hW5
   clear hkeep hext hbase hS5 hW5 k0
   go_wp2_with fail
   refine (writeToks_any D Wb la da ⟨cb, 0, none⟩ ea 288 lc 32 dc 288 ec Inf.fixF Inf.fiveF x n cap tk u1 _ w5 HBs.out HW5.out Inf.good_fix.2 Inf.good_five.2 (by decide) (by decide) (by decide) (by decide) (fun k hk => by have := Inf.good_fix.1.2 k hk; omega) (fun k hk => by have := Inf.good_five.1.2 k hk; omega) hn (by decide) HOK.out).mono ?_
   rintro e w6 ⟨rfl, u2, hW6, hS6⟩
   have k0 := (HBs.out w6 hS6.keeps).df.c0
   have HE6 := Lib.hid (HE.out w6 (HK.out w6 hS6.keeps))
   have HW6 := Lib.hid hW6
   clear hW6 hS6
   go_wp2_with fail
   refine (text_calls Wb 0 _ _ u2 w6 HW6.out).mono ?_
   rintro e w7 ⟨⟨l, hl1, hl2, rfl⟩, rfl⟩
   have HQ := Lib.hid (And.intro hl1 hl2)
   clear hl1 hl2
   go_wp2_with fail
   go_ret
   exact ⟨⟨l, HQ.out.1, HQ.out.2, by first | rfl | trivial⟩, HE6.out⟩
