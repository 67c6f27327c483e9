/-
  Small laws on memory: which blocks a call may have turned. No function of the program is named.
  A strings.Builder that a call has made itself: what its memory says; WriteString, Len, String.
  Rows of cells of whole numbers of one kind: arrays and slices that a call made. No function of the program is named.
  Rows of cells of whatever values. No function of the program is named.
  Functions of Go's library that a disk calls: math/bits.Mul, Builder.Grow, strings.Repeat, slices.Clone, slices.Repeat.
  A builder that is read and written on; strings.Repeat of one byte 0.
  Blocks that are known whole: variables that a call made. No function of the program is named.
  slices.Clone, slices.Repeat of rows of strings.
  A disk: what acts do to it. No function of the program is named.
-/
import Derived.Test.YtheidjagcafgnaaDoorProg
import Derived.WalkKit
import Derived.WalkSpells
import Derived.WalkSmall
import Derived.Lib.Hide
import Derived.Deep.QuietTactic
import Derived.BigQuiet
import Derived.RegionTactic
import Derived.WalkLawsBesides
import Derived.Maps.AppendAt
import Derived.Lib.Builder
import Derived.Lib.AppendStr
import Derived.Lib.UnsafeStr
import Derived.Shelf.RegionOpenPlain
import Derived.Lib.OthersKept
import Derived.Deep.WholeRow
import Derived.Deep.OwnRows
import Derived.Lib.Mul64
import Derived.Laws.Bits64b
import Derived.Lib.MakeNoZero
import Derived.Lib.SliceRun
import Derived.Laws.CopyOwn
import Derived.Deep.LoopGhost
import Derived.Deep.RegionLaw
import Derived.Lib.FrozenHead
import Derived.Lib.Strings
import Derived.Deep.DeepCutAuto
namespace Go.Proofs.YtheidjagcafgnaaDoor
open Go.RowKit
/-- of the blocks that were there only those in S may have turned -/
structure Keeps (S : Nat → Prop) (w w' : World) : Prop where
  os : w'.os = w.os
  tape : w'.tape = w.tape
  output : w'.output = w.output
  size : w.heap.size ≤ w'.heap.size
  block : ∀ k, k < w.heap.size → ¬ S k → w'.heap[k]? = w.heap[k]?
theorem Keeps.refl (S : Nat → Prop) (w : World) : Keeps S w w := ⟨rfl, rfl, rfl, Nat.le_refl _, fun _ _ _ => rfl⟩
theorem Keeps.trans {S S' : Nat → Prop} {a b c : World} (h : Keeps S a b) (k : Keeps S' b c) (hs : ∀ i, i < a.heap.size → S' i → S i) : Keeps S a c :=
  ⟨k.os.trans h.os, k.tape.trans h.tape, k.output.trans h.output, Nat.le_trans h.size k.size,
    fun i hi hn => (k.block i (Nat.lt_of_lt_of_le hi h.size) fun q => hn (hs i hi q)).trans (h.block i hi hn)⟩
theorem Keeps.mono {S S' : Nat → Prop} {a b : World} (h : Keeps S a b) (hs : ∀ i, i < a.heap.size → S i → S' i) : Keeps S' a b :=
  ⟨h.os, h.tape, h.output, h.size, fun i hi hn => h.block i hi fun q => hn (hs i hi q)⟩
theorem Keeps.grown {a b : World} {row : Option Nat} (h : a.grownBy b row) : Keeps (fun k => row = some k) a b :=
  ⟨h.os, h.tape, h.output, h.size, fun i hi hn => h.block i hi fun e => hn e.symm⟩
theorem Keeps.alloc {S : Nat → Prop} {a b : World} (h : Keeps S a b) (o : Obj) : Keeps S a (b.alloc o) :=
  ⟨h.os, h.tape, h.output, by have := h.size; simp; omega, fun i hi hn => (Below.heap_alloc _ _ _ (Nat.lt_of_lt_of_le hi h.size)).trans (h.block i hi hn)⟩
theorem Keeps.drewN {S : Nat → Prop} {a b : World} (h : Keeps S a b) (n : Nat) : Keeps S a (b.drewN n) := ⟨h.os, h.tape, h.output, h.size, h.block⟩
theorem Keeps.drew {S : Nat → Prop} {a b : World} (h : Keeps S a b) : Keeps S a b.drew := ⟨h.os, h.tape, h.output, h.size, h.block⟩
theorem Keeps.setCell {S : Nat → Prop} {a b : World} (h : Keeps S a b) {p : Addr} (hp : S p.block ∨ a.heap.size ≤ p.block) (u : Value) : Keeps S a (b.setCell p u) :=
  ⟨h.os, h.tape, h.output, by simpa using h.size, fun i hi hn => (Below.heap_setCell _ _ _ _ (fun e => by subst e; rcases hp with hp | hp; exact hn hp; omega)).trans (h.block i hi hn)⟩
theorem Keeps.below {S : Nat → Prop} {a b : World} (h : Keeps S a b) {B : Nat} (hB : B ≤ a.heap.size) (hs : ∀ k, k < B → ¬ S k) : Below B a b :=
  ⟨h.os, h.tape, h.output, h.size, fun k hk => h.block k (by omega) (hs k hk)⟩
theorem Keeps.of_below {B : Nat} {a b : World} (h : Below B a b) : Keeps (fun k => B ≤ k) a b :=
  ⟨h.os, h.tape, h.output, h.size, fun k _ hn => h.block k (by omega)⟩
theorem Keeps.cell {S : Nat → Prop} {a b : World} (h : Keeps S a b) {p : Addr} (hp : p.block < a.heap.size) (hn : ¬ S p.block) : b.cell? p = a.cell? p :=
  World.cell?_of_block (w := a) (h.block p.block hp hn)
theorem Keeps.frozen {S : Nat → Prop} {a b : World} (h : Keeps S a b) {p : Addr} (hp : p.block < a.heap.size) (hn : ¬ S p.block) : b.frozen? p = a.frozen? p :=
  World.frozen?_of_block (w := a) (h.block p.block hp hn)
def Ext (w w' : World) : Prop := Below w.heap.size w w'
theorem Ext.refl (w : World) : Ext w w := Below.refl _ _
theorem Ext.trans {a b c : World} (h : Ext a b) (k : Ext b c) : Ext a c := Below.trans h (Below.mono k h.size)
theorem Ext.alloc {a b : World} (h : Ext a b) (o : Obj) : Ext a (b.alloc o) := Below.alloc h h.size o
theorem Ext.drewN {a b : World} (h : Ext a b) (n : Nat) : Ext a (b.drewN n) := below_drewN h n
theorem Ext.keeps {S : Nat → Prop} {a b : World} (h : Ext a b) : Keeps S a b := (Keeps.of_below h).mono fun i hi q => by have : a.heap.size ≤ i := q; omega
theorem ret_int {k : IntKind} {a b : Int} (h : a = b) : Ending.returned (.int k a) = .returned (.int k b) := by rw [h]
theorem ret_bool {a b : Bool} (h : a = b) : Ending.returned (.bool a) = .returned (.bool b) := by rw [h]
theorem val_int {k : IntKind} {a b : Int} (h : a = b) : Value.int k a = Value.int k b := by rw [h]
theorem ownsRow_kept {S : Nat → Prop} {w w' : World} {base : Nat} {e : TypeId} {size : Nat} {v : Value} {n : Nat} {xs : List Value}
    (h : w.ownsRow base e size v n xs) (hk : Keeps S w w') (hn : ∀ k, v.ownBlock = some k → ¬ S k) : w'.ownsRow base e size v n xs := by
  obtain ⟨h1, h2⟩ := h
  refine ⟨h1, ?_⟩
  rcases h2 with h2 | ⟨g, cap, cur, hv, hg, hh, r⟩
  · exact Or.inl h2
  · subst hv
    have hlt : g < w.heap.size := lt_of_block hh
    exact Or.inr ⟨g, cap, cur, rfl, hg, by rw [hk.block g hlt (hn g rfl)]; exact hh, r⟩
theorem ownsRow_lt {w : World} {base : Nat} {e : TypeId} {size : Nat} {v : Value} {n : Nat} {xs : List Value}
    (h : w.ownsRow base e size v n xs) {k : Nat} (hk : v.ownBlock = some k) : k < w.heap.size := (h.lt k hk).2
/-- a row that holds something begins at the head of a block -/
theorem ownsRow_some {w : World} {base : Nat} {e : TypeId} {size : Nat} {v : Value} {n : Nat} {xs : List Value}
    (h : w.ownsRow base e size v n xs) (hn : 0 < n) : ∃ g cap, v = .slice (some ⟨g, 0, none⟩) n cap ∧ n ≤ cap ∧ g < w.heap.size := by
  rcases h.2 with ⟨_, h0⟩ | ⟨g, cap, cur, hv, _, hh, hc, _⟩
  · omega
  · exact ⟨g, cap, hv, hc, lt_of_block hh⟩
theorem ownsRow_slice {w : World} {base : Nat} {e : TypeId} {size : Nat} {v : Value} {n : Nat} {xs : List Value}
    (h : w.ownsRow base e size v n xs) : (v = .slice none 0 0 ∧ n = 0) ∨ ∃ g cap, v = .slice (some ⟨g, 0, none⟩) n cap := by
  rcases h.2 with h0 | ⟨g, cap, cur, hv, _⟩
  · exact .inl h0
  · exact .inr ⟨g, cap, hv⟩
theorem add_plain (b j : Nat) : (⟨b, 0, none⟩ : Addr).add j = ⟨b, j, none⟩ := by unfold Addr.add; split <;> simp_all
/-- the world under a name: what is said of it is all that is known -/
theorem wp_world {P : Program} {c : Code} {Q : Exit → Act → World → Prop} {a : Act} {W : World} (F : World → Prop) (h1 : F W) (h2 : ∀ wz, F wz → Code.wp P c Q a wz) : Code.wp P c Q a W := h2 W h1
theorem calls_world {P : Program} {f : Nat} {args : Array Value} {W : World} {Q : Ending → World → Prop} (F : World → Prop) (h1 : F W) (h2 : ∀ wz, F wz → Calls P f args wz Q) : Calls P f args W Q := h2 W h1
end Go.Proofs.YtheidjagcafgnaaDoor
namespace Go.Proofs.YtheidjagcafgnaaDoor
open Go.RowKit
set_option maxRecDepth 100000
structure Bld (B b : Nat) (l : List UInt8) (w : World) : Prop where
  le : B ≤ b
  lt : b < w.heap.size
  at_ : ∃ p v, (p = .pointer none ∨ p = .pointer (some ⟨b, 0, none⟩)) ∧ w.heap[b]? = some (.cells #[p, v] 78 (0, 0)) ∧ w.ownsRow B 5 1 v l.length (Lib.byteCells l) ∧ v.ownBlock ≠ some b
theorem Bld.ext {B b : Nat} {l : List UInt8} {w w' : World} (h : Bld B b l w) (hE : Ext w w') : Bld B b l w' := by
  obtain ⟨h1, h2, p, v, hp, hb, ho, hn⟩ := h
  exact ⟨h1, by have := hE.size; omega, p, v, hp, (hE.block b h2).trans hb, ownsRow_kept ho (S := fun _ => False) hE.keeps (fun _ _ q => q), hn⟩
theorem Bld.fresh (w : World) : Bld w.heap.size w.heap.size [] (w.alloc (.cells #[.pointer none, .slice none 0 0] 78)) :=
  ⟨Nat.le_refl _, by simp, _, _, .inl rfl, heap_alloc_new w _, World.ownsRow_nil _ _ _ _, by simp [Value.ownBlock]⟩
theorem bldSize : (Tryd.prog.info? 78).map (·.size) = some 2 := by kernel_rfl
theorem bldLies : liesAt Tryd.prog Tryd.prog.depth 78 (2 / Tryd.prog.cellsOf 78) 0 78 1 = true := by kernel_rfl
theorem u8info : (Tryd.prog.info? 5).map (fun i => (i.zero, i.size, i.bytes)) = some (some (.int .u8 0), 1, 1) := by kernel_rfl
theorem bld_copy_used (b : Nat) (w : World) (h0 : w.cell? ⟨b, 0, none⟩ = some (.pointer (some ⟨b, 0, none⟩))) :
    Calls Tryd.prog 44 #[.pointer (some ⟨b, 0, none⟩)] w fun e w' => e = .returned (.tuple #[]) ∧ w' = w := by
  obtain ⟨j, hj, _⟩ := Option.map_eq_some_iff.1 bldSize
  go_enter Tryd.func44, Tryd.ntmps44
  go_wp2
  rw [Lib.run_neq_ptr_same w _ Tryd.underlying76 hj]
  go_wp2
  go_end0
  exact ⟨rfl, rfl⟩
theorem bld_copy_fresh (b : Nat) (w : World) (h0 : w.cell? ⟨b, 0, none⟩ = some (.pointer none)) (hsh : w.shape? b = some (78, 2)) (hfz : w.frozen? ⟨b, 0, none⟩ = false) :
    Calls Tryd.prog 44 #[.pointer (some ⟨b, 0, none⟩)] w fun e w' => e = .returned (.tuple #[]) ∧ w' = w.setCell ⟨b, 0, none⟩ (.pointer (some ⟨b, 0, none⟩)) := by
  obtain ⟨j, hj, hjs⟩ := Option.map_eq_some_iff.1 bldSize
  go_enter Tryd.func44, Tryd.ntmps44
  go_wp2
  rw [Lib.run_to_unsafe w ⟨b, 0, none⟩ Tryd.underlying76 Tryd.underlying98 hj (by rw [hjs]; decide) hsh (Nat.zero_lt_succ 1)]
  simp only [Result.andThen]
  rw [Oper.upon_value]
  go_wp2
  rw [run_callFunc_extern Tryd.func52 (by kernel_rfl) (by kernel_rfl) (by kernel_rfl) (e := Extern.AbiNoEscape.same) (by kernel_rfl)]
  rw [Lib.run_noEscape]
  simp only [Result.andThen]
  rw [Oper.upon_value]
  go_wp2
  rw [Lib.run_from_unsafe w ⟨b, 0, none⟩ Tryd.underlying98 Tryd.underlying76 hj hsh bldLies]
  simp only [Result.andThen]
  rw [Oper.upon_value]
  go_wp2
  go_end0
  exact ⟨rfl, rfl⟩
/-- used: the first cell holds the builder's own address -/
def BldU (B b : Nat) (l : List UInt8) (w : World) : Prop := B ≤ b ∧ b < w.heap.size ∧ ∃ v, w.heap[b]? = some (.cells #[.pointer (some ⟨b, 0, none⟩), v] 78 (0, 0)) ∧ w.ownsRow B 5 1 v l.length (Lib.byteCells l) ∧ v.ownBlock ≠ some b
theorem bld_copy (B b : Nat) (l : List UInt8) (w : World) (h : Bld B b l w) :
    Calls Tryd.prog 44 #[.pointer (some ⟨b, 0, none⟩)] w fun e w' => e = .returned (.tuple #[]) ∧ BldU B b l w' ∧ Below B w w' ∧ Lib.OthersKept 5 (some b) w w' := by
  obtain ⟨h1, h2, p, v, hp, hb, ho, hn⟩ := h
  rcases hp with rfl | rfl
  · refine (bld_copy_fresh b w (by rw [Lib.cell_of_heap hb]; rfl) (by simp [World.shape?, hb]) (Lib.frozen_of_heap hb 0)).mono ?_
    rintro e w' ⟨rfl, rfl⟩
    have hA : Lib.BuilderAt 78 5 B b (.pointer none) (Lib.byteCells l) w := ⟨h1, v, hb, by rw [Lib.byteCells_length]; exact ho, hn⟩
    obtain ⟨_, v', q1, q2, q3⟩ := hA.used (.pointer (some ⟨b, 0, none⟩))
    rw [Lib.byteCells_length] at q2
    exact ⟨rfl, ⟨h1, lt_of_block q1, v', q1, q2, q3⟩, (Below.refl B w).setCell (p := ⟨b, 0, none⟩) h1 _, (Lib.OthersKept.refl _ _ w).setCell ⟨b, 0, none⟩ rfl _⟩
  · refine (bld_copy_used b w (by rw [Lib.cell_of_heap hb]; rfl)).mono ?_
    rintro e w' ⟨rfl, rfl⟩
    exact ⟨rfl, ⟨h1, h2, v, hb, ho, hn⟩, Below.refl B _, Lib.OthersKept.refl _ _ _⟩
theorem strCells_bytes (s : ByteArray) : Lib.strCells s = Lib.byteCells s.data.toList := rfl
theorem bld_write (B b : Nat) (l : List UInt8) (s : ByteArray) (w : World) (h : Bld B b l w) (hlen : l.length + s.size ≤ 140737488355328) (hBw : B ≤ w.heap.size) :
    Calls Tryd.prog 35 #[.pointer (some ⟨b, 0, none⟩), .string s] w fun e w' => e = .returned (.tuple #[.int .i64 s.size, .nilIface]) ∧ Bld B b (l ++ s.data.toList) w' ∧ Below B w w' ∧ Lib.OthersKept 5 (some b) w w' := by
  obtain ⟨i0, hi, hz0, hz1, hz2⟩ := info_parts u8info
  go_enter Tryd.func35, Tryd.ntmps35
  go_wp2_with fail
  refine (bld_copy B b l w h).mono ?_
  rintro e w1 ⟨rfl, ⟨hB, hlt, v, hbk, hown, hne⟩, hb1, hk1⟩
  have c1 : w1.cell? ⟨b, 1, none⟩ = some v := by rw [Lib.cell_of_heap hbk]; rfl
  go_wp2_with (at_builtin; refine Lib.wpList_append_own_string _ rfl _ _ 52 9 rfl B 5 i0 Tryd.underlying52 Tryd.underlying9 hi hz0 hz1 hz2 _ _ _ rfl hown s rfl ?c3 ?c4 ?c5 ?_)
  case c3 => unfold maxLen; omega
  case c4 => omega
  case c5 => have := hb1.size; omega
  intro v' w2 hown' hgrow _
  have hb2 : w2.heap[b]? = some (.cells #[.pointer (some ⟨b, 0, none⟩), v] 78 (0, 0)) := by
    rw [hgrow.block b hlt (fun e => hne e.symm)]
    exact hbk
  have d1 : w2.cell? ⟨b, 1, none⟩ = some v := by rw [Lib.cell_of_heap hb2]; rfl
  have f1 : w2.frozen? ⟨b, 1, none⟩ = false := Lib.frozen_of_heap hb2 1
  obtain ⟨ao, n', cap, rfl⟩ : ∃ ao n' cap, v' = .slice ao n' cap := by
    rcases hown'.2 with ⟨hv, _⟩ | ⟨g, cap, cur, hv, _⟩
    · exact ⟨_, _, _, hv⟩
    · exact ⟨_, _, _, hv⟩
  go_wp2_with fail
  go_ret2
  have hA : Lib.BuilderAt 78 5 B b (.pointer (some ⟨b, 0, none⟩)) (Lib.byteCells l ++ Lib.strCells s) (w2.setCell ⟨b, 1, none⟩ (.slice ao n' cap)) :=
    Lib.BuilderAt.put (T := 78) (e := 5) hB hb2 (bs' := Lib.byteCells l ++ Lib.strCells s) (by simpa [Lib.strCells_length, Lib.byteCells_length] using hown') (by decide)
  obtain ⟨_, v2, q1, q2, q3⟩ := hA
  refine ⟨rfl, ⟨hB, lt_of_block q1, _, v2, .inr rfl, q1, ?_, q3⟩, ?_, (hk1.grown hgrow (Lib.ownsRowF_kind (World.ownsRowF_of hown))).setCell ⟨b, 1, none⟩ rfl _⟩
  · have e1 : Lib.byteCells l ++ Lib.strCells s = Lib.byteCells (l ++ s.data.toList) := by rw [strCells_bytes]; simp [Lib.byteCells]
    rw [e1] at q2
    rwa [Lib.byteCells_length] at q2
  · exact (hb1.grown hgrow (by have := hb1.size; omega) (fun k hk => (hown.lt k hk).1)).setCell (p := ⟨b, 1, none⟩) hB _
theorem bld_len (B b : Nat) (l : List UInt8) (w : World) (h : Bld B b l w) :
    Calls Tryd.prog 36 #[.pointer (some ⟨b, 0, none⟩)] w fun e w' => e = .returned (.int .i64 l.length) ∧ w = w' := by
  obtain ⟨h1, h2, p, v, hp, hb, ho, hn⟩ := h
  obtain ⟨ao, cap, rfl⟩ : ∃ ao cap, v = .slice ao l.length cap := by
    rcases ho.2 with ⟨hv, h0⟩ | ⟨g, cap, cur, hv, _⟩
    · exact ⟨none, 0, by rw [hv, h0]⟩
    · exact ⟨_, _, hv⟩
  have c1 : w.cell? ⟨b, 1, none⟩ = some (.slice ao l.length cap) := by rw [Lib.cell_of_heap hb]; rfl
  go_enter Tryd.func36, Tryd.ntmps36
  go_wp2
  go_ret
  exact ⟨rfl, rfl⟩
set_option maxHeartbeats 1000000 in
theorem bld_string (B b : Nat) (l : List UInt8) (w : World) (h : Bld B b l w) (h0 : l ≠ []) :
    Calls Tryd.prog 37 #[.pointer (some ⟨b, 0, none⟩)] w fun e w' => e = .returned (.string ⟨l.toArray⟩) ∧ Below B w w' := by
  obtain ⟨hB, h2, p, v, hp, hbk, hown, hne⟩ := h
  have hl0 : l.length ≠ 0 := by simpa using h0
  obtain ⟨g, cap, cur, rfl, hbg, hg, hnc, hcm, hcs, htake⟩ : ∃ g cap cur, v = .slice (some ⟨g, 0, none⟩) l.length cap ∧ B ≤ g ∧ w.heap[g]? = some (.cells cur 5 (0, 0)) ∧ l.length ≤ cap ∧ cap ≤ maxLen ∧ cur.size = cap * 1 ∧ cur.toList.take (l.length * 1) = Lib.byteCells l := by
    rcases hown.2 with ⟨_, hz⟩ | ⟨g, cap, cur, hv, r⟩
    · exact absurd hz hl0
    · exact ⟨g, cap, cur, hv, r⟩
  have c1 : w.drew.cell? ⟨b, 1, none⟩ = some (.slice (some ⟨g, 0, none⟩) l.length cap) := by
    have this : w.drew.heap[b]? = some (.cells #[p, .slice (some ⟨g, 0, none⟩) l.length cap] 78 (0, 0)) := hbk
    rw [Lib.cell_of_heap this]; rfl
  have hSD : (Builtin.unsafeSliceData_ #[52] 97 #[.slice (some ⟨g, 0, none⟩) l.length cap]).run Tryd.prog w.drew = .ok (.pointer (some ⟨g, 0, none⟩)) w.drew :=
    Lib.run_unsafeSliceData_row _ _ _ _ _ _ (by omega)
  have hUS : (Builtin.unsafeString_ #[97, 3] 9 #[.pointer (some ⟨g, 0, none⟩), .int .i64 l.length]).run Tryd.prog w.drew = .ok (.string ⟨l.toArray⟩) (w.drew.freeze ⟨g, 0, none⟩ l.length) := by
    refine Lib.run_unsafeString_row w.drew 97 3 9 5 Tryd.underlying97 (by kernel_rfl) g cur.size (by have hg' : w.drew.heap[g]? = some (.cells cur 5 (0, 0)) := hg; simp [World.shape?, hg']) l h0 (by omega) (by unfold maxLen at hcm; omega) ?_
    intro j x hx
    have := hown.cells (g := g) rfl j (.int .u8 x.toNat) (by simp [Lib.byteCells, hx])
    exact this
  have mixed : Tryd.prog.follows .mixedOrders = true := by kernel_rfl
  go_enter Tryd.func37, Tryd.ntmps37
  go_wp2
  go_region_o
  all_goals (go_wp2; go_ret; exact ⟨rfl, Lib.below_freeze (Below.drew (Below.refl B w)) (p := ⟨g, 0, none⟩) hbg _⟩)
end Go.Proofs.YtheidjagcafgnaaDoor
namespace Go.Proofs.YtheidjagcafgnaaDoor
open Go.RowKit
@[irreducible] def cellsI (k : IntKind) (n : Nat) (f : Nat → Int) : Array Value := (List.map (fun i : Nat => Value.int k (f i)) (List.range n)).toArray
theorem cellsI_get (k : IntKind) (n : Nat) (f : Nat → Int) (i : Nat) (h : i < n) : (cellsI k n f)[i]? = some (.int k (f i)) := by
  unfold cellsI; simp [h]
@[go_sem] theorem cellsI_size (k : IntKind) (n : Nat) (f : Nat → Int) : (cellsI k n f).size = n := by unfold cellsI; simp
@[go_sem] theorem cellsI_getElem (k : IntKind) (n : Nat) (f : Nat → Int) (i : Nat) (h : i < (cellsI k n f).size) : (cellsI k n f)[i] = .int k (f i) := by
  have e1 := cellsI_get k n f i (by rw [← cellsI_size k n f]; exact h)
  rw [Array.getElem?_eq_getElem h] at e1
  exact Option.some.inj e1
theorem cellsI_set (k : IntKind) (n : Nat) (f : Nat → Int) (j : Nat) (x : Int) (g : Nat → Int) (hg : ∀ i, i < n → g i = if i = j then x else f i) : (cellsI k n f).setIfInBounds j (.int k x) = cellsI k n g := by
  apply Array.ext
  · simp [cellsI_size]
  · intro i h1 h2
    have h3 : i < n := by simpa [cellsI_size] using h2
    have e2 := cellsI_get k n g i h3
    have e1 := cellsI_get k n f i h3
    rw [Array.getElem?_eq_getElem h2] at e2
    rw [Array.getElem?_eq_getElem (by rw [cellsI_size]; exact h3)] at e1
    rw [Option.some_inj] at e1 e2
    rw [Array.getElem_setIfInBounds (by rw [cellsI_size]; exact h3), e2, e1, hg i h3]
    by_cases hij : j = i
    · subst hij; simp
    · rw [if_neg hij, if_neg (fun e => hij e.symm)]
theorem cellsI_zero (k : IntKind) (n : Nat) : Array.replicate n (Value.int k 0) = cellsI k n (fun _ => 0) := by
  unfold cellsI; apply Array.ext
  · simp
  · intro i h1 h2; simp
theorem cells16_eq (k : IntKind) (F : Nat → Int) : cellsI k 16 F = #[.int k (F 0), .int k (F 1), .int k (F 2), .int k (F 3), .int k (F 4), .int k (F 5), .int k (F 6), .int k (F 7), .int k (F 8), .int k (F 9), .int k (F 10), .int k (F 11), .int k (F 12), .int k (F 13), .int k (F 14), .int k (F 15)] := by unfold cellsI; rfl
theorem cellsI_same (k : IntKind) (n : Nat) (F : Nat → Int) (j : Nat) (v : Value) (hv : v = .int k (F j)) : (cellsI k n F).setIfInBounds j v = cellsI k n F := by
  rw [hv]; exact cellsI_set k n F j (F j) F (fun i _ => by by_cases h : i = j <;> simp [h])
/-- a row of cells of one kind, none frozen -/
def Cs (w : World) (B n : Nat) (k : IntKind) (g : Nat → Int) : Prop := ∀ i, i < n → w.cell? ⟨B, i, none⟩ = some (.int k (g i)) ∧ w.frozen? ⟨B, i, none⟩ = false
theorem Cs.congr {w : World} {B n : Nat} {k : IntKind} {g g' : Nat → Int} (h : Cs w B n k g) (hg : ∀ i, i < n → g' i = g i) : Cs w B n k g' := by
  intro i hi; rw [hg i hi]; exact h i hi
theorem Cs.put {w : World} {B n : Nat} {k : IntKind} {g : Nat → Int} (h : Cs w B n k g) (j : Nat) (x : Int) (g' : Nat → Int) (hj : j < n) (hg : ∀ i, i < n → g' i = if i = j then x else g i) : Cs (w.setCell ⟨B, j, none⟩ (.int k x)) B n k g' := by
  intro i hi
  obtain ⟨h1, h2⟩ := h i hi
  rw [hg i hi, World.frozen?_setCell]
  refine ⟨?_, h2⟩
  by_cases e : i = j
  · subst e; rw [if_pos rfl]; exact World.cell?_setCell_same _ _ _ h1
  · rw [if_neg e]; exact (World.cell?_setCell_other _ _ _ _ (by intro q; injection q with _ q2; exact e q2.symm)).trans h1
theorem Cs.other {w : World} {B n : Nat} {k : IntKind} {g : Nat → Int} (h : Cs w B n k g) (p : Addr) (v : Value) (hp : p.block ≠ B) : Cs (w.setCell p v) B n k g := by
  intro i hi
  obtain ⟨h1, h2⟩ := h i hi
  rw [World.frozen?_setCell]
  exact ⟨(World.cell?_setCell_other _ _ _ _ (by intro q; rw [q] at hp; exact hp rfl)).trans h1, h2⟩
theorem Cs.drew {w : World} {B n : Nat} {k : IntKind} {g : Nat → Int} (h : Cs w B n k g) : Cs w.drew B n k g := h
theorem Cs.alloc {w : World} {B n : Nat} {k : IntKind} {g : Nat → Int} (h : Cs w B n k g) (hB : B < w.heap.size) (o : Obj) : Cs (w.alloc o) B n k g := by
  intro i hi
  rw [World.cell?_alloc_past _ _ _ hB, World.frozen?_alloc_past _ _ _ hB]; exact h i hi
theorem Cs.born (w : World) (k : IntKind) (n : Nat) (g : Nat → Int) (t : TypeId) : Cs (w.alloc (.cells (cellsI k n g) t)) w.heap.size n k g := by
  intro i hi
  rw [World.cell?_alloc_at _ _ _ _ rfl, World.frozen?_alloc_at _ _ _ _ rfl]; exact ⟨cellsI_get k n g i hi, rfl⟩
theorem made_eq (k : IntKind) (n : Nat) : madeCells #[Value.int k 0] n = cellsI k n (fun _ => 0) := by
  apply Array.ext
  · rw [size_madeCells, cellsI_size]
  · intro i h1 h2
    rw [cellsI_getElem]; simp [madeCells, Nat.mod_one]
theorem still_of {P : Program} {f : Nat} {args : Array Value} {w : World} {v : Value} (h : Calls P f args w fun e w' => e = .returned v ∧ w = w') : Calls P f args w fun e w' => e = .returned v ∧ w' = w :=
  h.mono fun _ _ ⟨a, b⟩ => ⟨a, b.symm⟩
end Go.Proofs.YtheidjagcafgnaaDoor
namespace Go.Proofs.YtheidjagcafgnaaDoor
open Go.RowKit
/-- a row of cells, none frozen -/
def Cv (w : World) (B n : Nat) (g : Nat → Value) : Prop := ∀ i, i < n → w.cell? ⟨B, i, none⟩ = some (g i) ∧ w.frozen? ⟨B, i, none⟩ = false
theorem Cv.congr {w : World} {B n : Nat} {g g' : Nat → Value} (h : Cv w B n g) (hg : ∀ i, i < n → g' i = g i) : Cv w B n g' := by
  intro i hi; rw [hg i hi]; exact h i hi
theorem Cv.put {w : World} {B n : Nat} {g : Nat → Value} (h : Cv w B n g) (j : Nat) (x : Value) (g' : Nat → Value) (hj : j < n) (hg : ∀ i, i < n → g' i = if i = j then x else g i) : Cv (w.setCell ⟨B, j, none⟩ x) B n g' := by
  intro i hi
  obtain ⟨h1, h2⟩ := h i hi
  rw [hg i hi, World.frozen?_setCell]
  refine ⟨?_, h2⟩
  by_cases e : i = j
  · subst e; rw [if_pos rfl]; exact World.cell?_setCell_same _ _ _ h1
  · rw [if_neg e]; exact (World.cell?_setCell_other _ _ _ _ (by intro q; injection q with _ q2; exact e q2.symm)).trans h1
theorem Cv.keeps {w w' : World} {B n : Nat} {g : Nat → Value} {S : Nat → Prop} (h : Cv w B n g) (hk : Keeps S w w') (hB : ¬ S B) : Cv w' B n g := by
  intro i hi
  obtain ⟨h1, h2⟩ := h i hi
  have hlt : B < w.heap.size := World.block_lt_of_cell? w _ h1
  exact ⟨(hk.cell (p := ⟨B, i, none⟩) hlt hB).trans h1, (hk.frozen (p := ⟨B, i, none⟩) hlt hB).trans h2⟩
theorem Cv.ext {w w' : World} {B n : Nat} {g : Nat → Value} (h : Cv w B n g) (hE : Ext w w') : Cv w' B n g := h.keeps (S := fun _ => False) hE.keeps id
theorem Cv.drew {w : World} {B n : Nat} {g : Nat → Value} (h : Cv w B n g) : Cv w.drew B n g := h
theorem Cv.drewN {w : World} {B n : Nat} {g : Nat → Value} (h : Cv w B n g) (m : Nat) : Cv (w.drewN m) B n g := h
theorem Cv.made (w : World) (n : Nat) (z : Value) (t : TypeId) : Cv (w.alloc (.cells (madeCells #[z] n) t)) w.heap.size n (fun _ => z) := by
  intro i hi
  rw [World.cell?_alloc_at _ _ _ _ rfl, World.frozen?_alloc_at _ _ _ _ rfl]
  refine ⟨?_, rfl⟩
  have hs : i < (madeCells #[z] n).size := by rw [size_madeCells]; simpa using hi
  rw [Array.getElem?_eq_getElem hs]
  simp [madeCells, Nat.mod_one]
theorem Cv.of_cs {w : World} {B n : Nat} {k : IntKind} {g : Nat → Int} (h : Cs w B n k g) : Cv w B n (fun i => .int k (g i)) := h
end Go.Proofs.YtheidjagcafgnaaDoor
namespace Go.Proofs.YtheidjagcafgnaaDoor
open Go.RowKit
set_option maxRecDepth 100000
theorem mulMask (a : Nat) (ha : a < 18446744073709551616) : bits .and .u64 (a : Int) 4294967295 = ((a % 4294967296 : Nat) : Int) := by
  have h := bits_and_u64_nat a 4294967295 ha (by omega)
  rw [show a &&& 4294967295 = a % 4294967296 from Nat.and_two_pow_sub_one_eq_mod a 32] at h
  exact h
theorem mul64_one (c : Nat) (hc : c ≤ 10000) (w : World) : Calls Tryd.prog 42 #[.int .u64 1, .int .u64 (c : Int)] w fun e w' => e = .returned (.tuple #[.int .u64 0, .int .u64 (c : Int)]) ∧ w' = w := by
  have m1 : bits .and .u64 1 4294967295 = 1 := by decide
  have m0 : bits .and .u64 0 4294967295 = 0 := by decide
  have mc : bits .and .u64 (c : Int) 4294967295 = (c : Int) := by rw [mulMask c (by omega)]; congr 1; omega
  have dc : (c : Int) / 4294967296 = 0 := by omega
  have wc_ : IntKind.u64.wrap (c : Int) = (c : Int) := by rw [IntKind.wrap_u64]; omega
  have w0_ : IntKind.u64.wrap 0 = 0 := by decide
  go_enter Tryd.func42, Tryd.ntmps42
  go_wp2
  go_ret2
  exact ⟨rfl, rfl⟩
theorem mul_one (c : Nat) (hc : c ≤ 10000) (w : World) : Calls Tryd.prog 32 #[.int .u64 1, .int .u64 (c : Int)] w fun e w' => e = .returned (.tuple #[.int .u64 0, .int .u64 (c : Int)]) ∧ w' = w := by
  go_enter Tryd.func32, Tryd.ntmps32
  go_wp2_with fail
  refine (mul64_one c hc w).mono ?_
  rintro e w2 ⟨rfl, rfl⟩
  go_wp2_with fail
  go_ret2
  exact ⟨rfl, rfl⟩
theorem byteSz : (Tryd.prog.info? 5).map (·.size) = some 1 := by kernel_rfl
set_option maxHeartbeats 2000000 in
theorem bld_grow_in (B b n : Nat) (w : World) (hB : B ≤ b) (hbk : w.heap[b]? = some (.cells #[.pointer (some ⟨b, 0, none⟩), .slice none 0 0] 78 (0, 0))) (hBw : B ≤ w.heap.size) (hn : n ≤ 10000) :
    Calls Tryd.prog 45 #[.pointer (some ⟨b, 0, none⟩), .int .i64 n] w fun e w' => e = .returned (.tuple #[]) ∧ (Lib.BuilderAt 78 5 B b (.pointer (some ⟨b, 0, none⟩)) [] w' ∧ Below B w w') := by
  obtain ⟨cs, hrun, hle, hmax⟩ := Lib.run_makeNoZero (P := Tryd.prog) w.drew #[3] 52 5 Tryd.underlying52 n (by omega)
  have hw : IntKind.i64.wrap (IntKind.i64.wrap 0 + (n : Int)) = n := by
    rw [IntKind.wrap_i64, IntKind.wrap_i64]
    omega
  have hcall : (callFunc 53 #[.int .i64 (IntKind.i64.wrap (IntKind.i64.wrap 0 + (n : Int)))]).run Tryd.prog w.drew = .ok (.value (.slice (some ⟨w.drew.heap.size, 0, none⟩) n cs.size)) (w.drew.drew.drew.alloc (.cells cs 5)) := by
    rw [hw, run_callFunc_extern Tryd.func53 (by kernel_rfl) (by kernel_rfl) (by kernel_rfl) (e := Extern.BytealgMakeNoZero.makeNoZero #[3] #[52]) (by kernel_rfl), hrun]
    rfl
  have c1 : w.drew.cell? ⟨b, 1, none⟩ = some (.slice none 0 0) := by
    have : w.drew.heap[b]? = _ := hbk
    rw [Lib.cell_of_heap this]; rfl
  have hlt : b < w.heap.size := lt_of_block hbk
  have c2 : (w.alloc (.cells cs 5)).cell? ⟨b, 1, none⟩ = some (.slice none 0 0) := by
    have : (w.alloc (.cells cs 5)).heap[b]? = _ := (Lib.alloc_old w _ b hlt).trans hbk
    rw [Lib.cell_of_heap this]; rfl
  have f2 : (w.alloc (.cells cs 5)).frozen? ⟨b, 1, none⟩ = false := Lib.frozen_of_heap ((Lib.alloc_old w _ b hlt).trans hbk) 1
  have hcopy : ∀ W : World, (Builtin.copy_ #[52, 52] 3 #[.slice (some ⟨w.heap.size, 0, none⟩) 0 cs.size, .slice none 0 0]).run Tryd.prog W = .ok (goInt 0) W :=
    fun W => run_copy_none W 52 52 3 5 _ _ 0 cs.size 0 0 Tryd.underlying52 byteSz rfl
  clear hw hlt
  have mixed : Tryd.prog.follows .mixedOrders = true := by kernel_rfl
  have u0 := run_underlying Tryd.underlying52
  go_enter Tryd.func45, Tryd.ntmps45
  go_wp2
  have hfin := Lib.grown_fresh (T := 78) (e := 5) (cs := cs) hB hbk hBw (hmax (by unfold maxLen; omega)) (by decide)
  go_region_o
  all_goals (go_wp2; go_end0; exact ⟨rfl, hfin⟩)
set_option maxHeartbeats 2000000 in
theorem bld_grow (B b n : Nat) (w : World) (hB : B ≤ b) (hbk : w.heap[b]? = some (.cells #[.pointer none, .slice none 0 0] 78 (0, 0))) (hBw : B ≤ w.heap.size) (hn : n ≤ 10000) :
    Calls Tryd.prog 34 #[.pointer (some ⟨b, 0, none⟩), .int .i64 n] w fun e w' => e = .returned (.tuple #[]) ∧ (Lib.BuilderAt 78 5 B b (.pointer (some ⟨b, 0, none⟩)) [] w' ∧ Below B w w') := by
  have hbk1 : (w.setCell ⟨b, 0, none⟩ (.pointer (some ⟨b, 0, none⟩))).heap[b]? = some (.cells #[.pointer (some ⟨b, 0, none⟩), .slice none 0 0] 78 (0, 0)) := by
    simp [World.setCell, Array.getElem?_modify, hbk]
  have c1 : (w.setCell ⟨b, 0, none⟩ (.pointer (some ⟨b, 0, none⟩))).cell? ⟨b, 1, none⟩ = some (.slice none 0 0) := by rw [Lib.cell_of_heap hbk1]; rfl
  have hb1 : Below B w (w.setCell ⟨b, 0, none⟩ (.pointer (some ⟨b, 0, none⟩))) := (Below.refl B w).setCell (p := ⟨b, 0, none⟩) hB _
  have hU : Lib.BuilderAt 78 5 B b (.pointer (some ⟨b, 0, none⟩)) [] (w.setCell ⟨b, 0, none⟩ (.pointer (some ⟨b, 0, none⟩))) := ⟨hB, .slice none 0 0, hbk1, World.ownsRow_nil _ _ _ _, by simp [Value.ownBlock]⟩
  have c1' : (w.setCell ⟨b, 0, none⟩ (.pointer (some ⟨b, 0, none⟩))).drew.cell? ⟨b, 1, none⟩ = some (.slice none 0 0) := c1
  have mixed : Tryd.prog.follows .mixedOrders = true := by kernel_rfl
  go_enter Tryd.func34, Tryd.ntmps34
  go_wp2_with fail
  refine (bld_copy_fresh b w (by rw [Lib.cell_of_heap hbk]; rfl) (by simp [World.shape?, hbk]) (Lib.frozen_of_heap hbk 0)).mono ?_
  rintro e w' ⟨rfl, rfl⟩
  go_wp2_with fail
  go_region_o
  all_goals (try go_wp2_with fail)
  all_goals first
    | (refine (bld_grow_in B b n (w.setCell ⟨b, 0, none⟩ (.pointer (some ⟨b, 0, none⟩))).drew hB hbk1 (by simpa [World.setCell, World.drew, -World.drew_eq] using hBw) hn).mono ?_; rintro e w' ⟨rfl, h1, h2⟩; go_wp2_with fail; go_end0; exact ⟨rfl, h1, hb1.drew.trans h2⟩)
    | (go_end0; exact ⟨rfl, hU.drew, hb1.drew⟩)
theorem Bld.of_at {B b : Nat} {w : World} (h : Lib.BuilderAt 78 5 B b (.pointer (some ⟨b, 0, none⟩)) [] w) : Bld B b [] w := by
  obtain ⟨h1, v, h2, h3, h4⟩ := h
  exact ⟨h1, lt_of_block h2, _, v, .inr rfl, h2, h3, h4⟩
end Go.Proofs.YtheidjagcafgnaaDoor
namespace Go.Proofs.YtheidjagcafgnaaDoor
open Go.RowKit
set_option maxRecDepth 100000
abbrev BF (B b : Nat) (l : List UInt8) (w : World) : Prop := Lib.BuilderAtF 78 5 B b (.pointer (some ⟨b, 0, none⟩)) (Lib.byteCells l) w
theorem bf_len (B b : Nat) (l : List UInt8) (w : World) (h : BF B b l w) :
    Calls Tryd.prog 36 #[.pointer (some ⟨b, 0, none⟩)] w fun e w' => e = .returned (.int .i64 l.length) ∧ w' = w := by
  obtain ⟨hB, v, hbk, hown, hne⟩ := h
  rw [Lib.byteCells_length] at hown
  obtain ⟨ao, cap, rfl⟩ : ∃ ao cap, v = .slice ao l.length cap := by
    rcases hown.2 with ⟨hv, h0⟩ | ⟨g, cap, cur, fz, hv, _⟩
    · exact ⟨none, 0, by rw [hv, h0]⟩
    · exact ⟨_, _, hv⟩
  have c1 : w.cell? ⟨b, 1, none⟩ = some (.slice ao l.length cap) := by rw [Lib.cell_of_heap hbk]; rfl
  go_enter Tryd.func36, Tryd.ntmps36
  go_wp2
  go_ret
  exact ⟨rfl, rfl⟩
set_option maxHeartbeats 2000000 in
theorem bf_write (B b : Nat) (l : List UInt8) (s : ByteArray) (w : World) (h : BF B b l w) (hlen : l.length + s.size ≤ 100000) (hBw : B ≤ w.heap.size) :
    Calls Tryd.prog 35 #[.pointer (some ⟨b, 0, none⟩), .string s] w fun e w' => e = .returned (.tuple #[.int .i64 s.size, .nilIface]) ∧ BF B b (l ++ s.data.toList) w' ∧ Below B w w' := by
  obtain ⟨i0, hi, hz0, hz1, hz2⟩ := info_parts u8info
  have hc0 := h.cell0
  obtain ⟨hB, v, hbk, hown, hne⟩ := h
  rw [Lib.byteCells_length] at hown
  have c1 : w.cell? ⟨b, 1, none⟩ = some v := by rw [Lib.cell_of_heap hbk]; rfl
  go_enter Tryd.func35, Tryd.ntmps35
  go_wp2_with fail
  refine (bld_copy_used b w hc0).mono ?_
  rintro e w1 ⟨rfl, rfl⟩
  go_wp2_with (at_builtin; refine Lib.wpList_append_own_stringF _ rfl _ _ 52 9 rfl B 5 i0 Tryd.underlying52 Tryd.underlying9 hi hz0 hz1 hz2 _ _ _ rfl hown s rfl ?c3 ?c4 ?c5 ?_)
  case c3 => unfold maxLen; omega
  case c4 => omega
  case c5 => exact hBw
  intro v' w2 hown' hgrow _
  have hlt : b < w1.heap.size := lt_of_block hbk
  have hb2 : w2.heap[b]? = some (.cells #[.pointer (some ⟨b, 0, none⟩), v] 78 (0, 0)) := by
    rw [hgrow.block b hlt (fun e => hne e.symm)]
    exact hbk
  have d1 : w2.cell? ⟨b, 1, none⟩ = some v := by rw [Lib.cell_of_heap hb2]; rfl
  have f1 : w2.frozen? ⟨b, 1, none⟩ = false := Lib.frozen_of_heap hb2 1
  obtain ⟨ao, n', cap, rfl⟩ : ∃ ao n' cap, v' = .slice ao n' cap := by
    rcases hown'.2 with ⟨hv, _⟩ | ⟨g, cap, cur, fz, hv, _⟩
    · exact ⟨_, _, _, hv⟩
    · exact ⟨_, _, _, hv⟩
  go_wp2_with fail
  go_ret2
  refine ⟨rfl, ?_, ?_⟩
  · have q := Lib.BuilderAtF.put (T := 78) (e := 5) hB hb2 (bs' := Lib.byteCells l ++ Lib.strCells s) (by simpa [Lib.strCells_length, Lib.byteCells_length] using hown') (by decide)
    have e1 : Lib.byteCells l ++ Lib.strCells s = Lib.byteCells (l ++ s.data.toList) := by rw [strCells_bytes]; simp [Lib.byteCells]
    rw [e1] at q
    exact q
  · exact ((Below.refl B w1).grown hgrow hBw (fun k hk => (hown.lt k hk).1)).setCell (p := ⟨b, 1, none⟩) hB _
set_option maxHeartbeats 1000000 in
theorem bf_string (B b : Nat) (l : List UInt8) (w : World) (h : BF B b l w) (h0 : l ≠ []) :
    Calls Tryd.prog 37 #[.pointer (some ⟨b, 0, none⟩)] w fun e w' => e = .returned (.string ⟨l.toArray⟩) ∧ BF B b l w' ∧ Below B w w' := by
  have hA : Lib.BuilderAtF 78 5 B b (.pointer (some ⟨b, 0, none⟩)) (Lib.byteCells l) w.drew := h.drew
  obtain ⟨hB, v, hbk, hown, hne⟩ := h
  have hl0 : l.length ≠ 0 := by simpa using h0
  rw [Lib.byteCells_length] at hown
  obtain ⟨g, cap, cur, fz, rfl, hbg, hg, hfz, hnc, hcm, hcs, htake⟩ : ∃ g cap cur fz, v = .slice (some ⟨g, 0, none⟩) l.length cap ∧ B ≤ g ∧ w.heap[g]? = some (.cells cur 5 fz) ∧ fz.2 ≤ l.length * 1 ∧ l.length ≤ cap ∧ cap ≤ maxLen ∧ cur.size = cap * 1 ∧ cur.toList.take (l.length * 1) = Lib.byteCells l := by
    rcases hown.2 with ⟨_, hz⟩ | ⟨g, cap, cur, fz, hv, r⟩
    · exact absurd hz hl0
    · exact ⟨g, cap, cur, fz, hv, r⟩
  have c1 : w.drew.cell? ⟨b, 1, none⟩ = some (.slice (some ⟨g, 0, none⟩) l.length cap) := by
    have this : w.drew.heap[b]? = some (.cells #[.pointer (some ⟨b, 0, none⟩), .slice (some ⟨g, 0, none⟩) l.length cap] 78 (0, 0)) := hbk
    rw [Lib.cell_of_heap this]; rfl
  have hSD : (Builtin.unsafeSliceData_ #[52] 97 #[.slice (some ⟨g, 0, none⟩) l.length cap]).run Tryd.prog w.drew = .ok (.pointer (some ⟨g, 0, none⟩)) w.drew :=
    Lib.run_unsafeSliceData_row _ _ _ _ _ _ (by omega)
  have hUS : (Builtin.unsafeString_ #[97, 3] 9 #[.pointer (some ⟨g, 0, none⟩), .int .i64 l.length]).run Tryd.prog w.drew = .ok (.string ⟨l.toArray⟩) (w.drew.freeze ⟨g, 0, none⟩ l.length) := by
    refine Lib.run_unsafeString_row w.drew 97 3 9 5 Tryd.underlying97 (by kernel_rfl) g cur.size (by have hg' : w.drew.heap[g]? = some (.cells cur 5 fz) := hg; simp [World.shape?, hg']) l h0 (by omega) (by unfold maxLen at hcm; omega) ?_
    intro j x hx
    have := hown.cells (g := g) rfl j (.int .u8 x.toNat) (by simp [Lib.byteCells, hx])
    exact this
  have hkeep : BF B b l (w.drew.freeze ⟨g, 0, none⟩ l.length) := by
    have hF := hA.froze (g := g) (cap := cap) (by rw [Lib.byteCells_length]; exact c1)
    rwa [Lib.byteCells_length] at hF
  clear hA
  have mixed : Tryd.prog.follows .mixedOrders = true := by kernel_rfl
  go_enter Tryd.func37, Tryd.ntmps37
  go_wp2
  go_region_o
  all_goals (go_wp2; go_ret; exact ⟨rfl, hkeep, Lib.below_freeze (Below.drew (Below.refl B w)) (p := ⟨g, 0, none⟩) hbg _⟩)
def zB (c : Nat) : ByteArray := ⟨(List.replicate c 0).toArray⟩
theorem zB_size (c : Nat) : (zB c).size = c := by simp [zB, ByteArray.size]
theorem zB_one : (⟨#[0]⟩ : ByteArray) = zB 1 := rfl
theorem run_min3 {P : Program} {w : World} (ts : Array TypeId) (t : TypeId) (x y z : Int) :
    (Builtin.min_ ts t #[.int .i64 x, .int .i64 y, .int .i64 z]).run P w = .ok (.int .i64 (if z < (if y < x then y else x) then z else (if y < x then y else x))) w := by
  simp [Builtin.min_, Builtin.min2]
theorem zB_cut (q k : Nat) (h : k ≤ q) : (zB q).extract 0 k = zB k := by
  rw [Lib.extract_eq]
  unfold zB
  simp [List.take_replicate, Nat.min_eq_left h]
theorem rep_0 (w : World) : Calls Tryd.prog 22 #[.string (zB 1), .int .i64 0] w fun e w' => e = .returned (.string (zB 0)) ∧ Ext w w' := by
  go_enter Tryd.func22, Tryd.ntmps22
  go_wp2_with fail
  go_ret
  exact ⟨rfl, Ext.refl _⟩
theorem rep_1 (w : World) : Calls Tryd.prog 22 #[.string (zB 1), .int .i64 1] w fun e w' => e = .returned (.string (zB 1)) ∧ Ext w w' := by
  go_enter Tryd.func22, Tryd.ntmps22
  go_wp2_with fail
  go_ret
  exact ⟨rfl, Ext.refl _⟩
set_option linter.unusedSimpArgs false in
set_option maxHeartbeats 4000000 in
theorem rep_2 (c : Nat) (hc2 : 2 ≤ c) (hc : c ≤ 64) (w : World) : Calls Tryd.prog 22 #[.string (zB 1), .int .i64 (c : Int)] w fun e w' => e = .returned (.string (zB c)) ∧ Ext w w' := by
  have hsz : (zB 1).size = 1 := zB_size 1
  have n0 : ((c : Int) == 0) = false := beq_eq_false_iff_ne.2 (by omega)
  have n1 : ((c : Int) == 1) = false := beq_eq_false_iff_ne.2 (by omega)
  have n2 : ¬ (c : Int) < 0 := by omega
  have wu : IntKind.u64.wrap (c : Int) = (c : Int) := by rw [IntKind.wrap_u64]; omega
  have wi : IntKind.i64.wrap (c : Int) = (c : Int) := by rw [IntKind.wrap_i64]; omega
  have hz : ∀ h : 0 < (zB 1).size, (zB 1)[0] = 0 := fun _ => rfl
  have n3 : ¬ (9223372036854775807 : Int) < (c : Int) := by omega
  have n4 : ¬ (8192 : Int) < (c : Int) := by omega
  go_enter Tryd.func22, Tryd.ntmps22
  go_wp2_with fail
  refine (mul_one c (by omega) w).mono ?_
  rintro e w2 ⟨rfl, rfl⟩
  go_wp2_with fail
  clear n0 n1 n2 wu hz n3 n4
  refine (bld_grow w2.heap.size w2.heap.size c (w2.alloc (.cells #[.pointer none, .slice none 0 0] 78)) (Nat.le_refl _) (heap_alloc_new w2 _) (by simp) (by omega)).mono ?_
  rintro e w3 ⟨rfl, h3, b3⟩
  have H3 := Lib.hid (show BF w2.heap.size w2.heap.size [] w3 from Lib.BuilderAtF.of h3)
  have X3 := Lib.hid (Below.trans ((Below.refl _ w2).alloc (Nat.le_refl _) _) b3)
  clear h3 b3
  go_wp2_with fail
  refine (bf_write w2.heap.size w2.heap.size [] (zB 1) w3 H3.out (by rw [hsz]; simp) (by have := X3.out.size; omega)).mono ?_
  rintro e w4 ⟨rfl, h4, b4⟩
  have H4 := Lib.hid (show BF w2.heap.size w2.heap.size (List.replicate 1 0) w4 from h4)
  have X4 := Lib.hid (Below.trans X3.out b4)
  clear h4 b4 H3 X3 wi
  go_wp2_with fail
  go_loopg [] (c - 1) (fun k wr => ∃ q : Nat, 1 ≤ q ∧ q + k = c ∧ Hid (BF w2.heap.size w2.heap.size (List.replicate q 0) wr) ∧ Hid (Below w2.heap.size w2 wr))
  case atStart => exact ⟨1, Nat.le_refl _, by omega, H4, X4⟩
  case round =>
    clear H4 X4
    obtain ⟨q, hq1, hqk, HB, HX⟩ := hrel
    have hl : (List.replicate q (0 : UInt8)).length = q := List.length_replicate
    have cl := bf_len w2.heap.size w2.heap.size (List.replicate q 0) wr HB.out
    rw [hl] at cl
    have CL := Lib.hid cl
    clear cl hl
    by_cases hlt : q < c
    · have hmin : (if (c : Int) < (if (q : Int) < (c : Int) - (q : Int) then (q : Int) else (c : Int) - (q : Int)) then (c : Int) else (if (q : Int) < (c : Int) - (q : Int) then (q : Int) else (c : Int) - (q : Int))) = ((min q (c - q) : Nat) : Int) := by split <;> split <;> omega
      have hm := fun (w : World) (ts : Array TypeId) (t : TypeId) => run_min3 (P := Tryd.prog) (w := w) ts t ((c : Int) - (q : Int)) (q : Int) (c : Int)
      rw [hmin] at hm
      obtain ⟨k, hk⟩ : ∃ k, min q (c - q) = k := ⟨_, rfl⟩
      rw [hk] at hm
      have hk1 : k ≤ q := by omega
      have hk2 : 1 ≤ k ∧ q + k ≤ c := by omega
      have hk3 : (zB q).size = q := zB_size q
      have wcq : ∀ z, z = (c : Int) - (q : Int) → IntKind.i64.wrap z = z := by rintro _ rfl; rw [IntKind.wrap_i64]; omega
      clear hmin hk
      go_wp2_with fail
      refine CL.out.mono ?_
      rintro e w9 ⟨rfl, rfl⟩
      go_wp2_with fail
      refine CL.out.mono ?_
      rintro e w9 ⟨rfl, rfl⟩
      go_wp2_with fail
      refine CL.out.mono ?_
      rintro e w9 ⟨rfl, rfl⟩
      go_wp2_with fail
      refine (bf_string w2.heap.size w2.heap.size (List.replicate q 0) w9 HB.out (by intro e; have := congrArg List.length e; simp at this; omega)).mono ?_
      rintro e w5 ⟨rfl, h5, b5⟩
      have H5 := Lib.hid h5
      have X5 := Lib.hid (HX.out.trans b5)
      have HQ := Lib.hid (show (⟨(List.replicate q (0 : UInt8)).toArray⟩ : ByteArray) = zB q from rfl)
      clear h5 b5 HB HX CL hm
      rw [HQ.out]
      have kI : ((k : Nat) : Int).toNat = k := by omega
      have hcut := zB_cut q k hk1
      have HK := Lib.hid (And.intro hk1 hk2)
      go_wp2_with fail
      refine (bf_write w2.heap.size w2.heap.size (List.replicate q 0) (zB k) w5 H5.out (by rw [zB_size, List.length_replicate]; omega) (by have := X5.out.size; omega)).mono ?_
      rintro e w6 ⟨rfl, h6, b6⟩
      have H6 := Lib.hid (show BF w2.heap.size w2.heap.size (List.replicate (q + k) 0) w6 from by rw [← List.replicate_append_replicate]; exact h6)
      have X6 := Lib.hid (X5.out.trans b6)
      clear h6 b6 H5 X5 hcut kI
      go_wp2_with fail
      go_roundg (c - (q + k))
      case measure => omega
      case rel => exact ⟨q + k, by omega, by omega, H6, X6⟩
    · obtain rfl : q = c := by omega
      go_wp2_with fail
      refine CL.out.mono ?_
      rintro e w9 ⟨rfl, rfl⟩
      go_wp2_with fail
      refine (bf_string w2.heap.size w2.heap.size (List.replicate q 0) w9 HB.out (by intro e; have := congrArg List.length e; simp at this; omega)).mono ?_
      rintro e w5 ⟨rfl, h5, b5⟩
      go_wp2_with fail
      go_ret
      exact ⟨rfl, HX.out.trans b5⟩
theorem rep_any (c : Nat) (hc : c ≤ 64) (w : World) : Calls Tryd.prog 22 #[.string (zB 1), .int .i64 (c : Int)] w fun e w' => e = .returned (.string (zB c)) ∧ Ext w w' := by
  match c, hc with
  | 0, _ => exact rep_0 w
  | 1, _ => exact rep_1 w
  | c + 2, hc => exact rep_2 (c + 2) (by omega) hc w
end Go.Proofs.YtheidjagcafgnaaDoor
namespace Go.Proofs.YtheidjagcafgnaaDoor
open Go.RowKit
def Bk (w : World) (b : Nat) (cs : Array Value) : Prop := ∃ t, w.heap[b]? = some (.cells cs t (0, 0))
theorem Bk.lt {w : World} {b : Nat} {cs : Array Value} (h : Bk w b cs) : b < w.heap.size := by obtain ⟨t, h⟩ := h; exact lt_of_block h
theorem Bk.at {w : World} {k : Nat} {cs : Array Value} {t : TypeId} (h : w.heap.size = k) : Bk (w.alloc (.cells cs t)) k cs := ⟨t, by rw [← h]; exact heap_alloc_new w _⟩
theorem Bk.old {w : World} {b : Nat} {cs : Array Value} {o : Obj} (h : Bk w b cs) : Bk (w.alloc o) b cs := by
  have hl := h.lt
  obtain ⟨t, h⟩ := h
  exact ⟨t, (Below.heap_alloc w o b hl).trans h⟩
theorem Bk.keeps {S : Nat → Prop} {w w' : World} {b : Nat} {cs : Array Value} (h : Bk w b cs) (hk : Keeps S w w') (hS : ¬ S b) : Bk w' b cs := by
  have hl := h.lt
  obtain ⟨t, h⟩ := h
  exact ⟨t, (hk.block b hl hS).trans h⟩
theorem Bk.ext {w w' : World} {b : Nat} {cs : Array Value} (h : Bk w b cs) (hE : Ext w w') : Bk w' b cs := h.keeps (S := fun _ => False) hE.keeps id
theorem Bk.cell {w : World} {b : Nat} {cs : Array Value} (h : Bk w b cs) (i : Nat) : w.cell? ⟨b, i, none⟩ = cs[i]? := by
  obtain ⟨t, h⟩ := h
  exact cell_of_row w b i cs t (0, 0) h
theorem Bk.frozen {w : World} {b : Nat} {cs : Array Value} (h : Bk w b cs) (i : Nat) : w.frozen? ⟨b, i, none⟩ = false := by
  obtain ⟨t, h⟩ := h
  simp [World.frozen?, h]
theorem Bk.set_ {w : World} {b : Nat} {cs : Array Value} (h : Bk w b cs) (i : Nat) (u : Value) : Bk (w.setCell ⟨b, i, none⟩ u) b (cs.setIfInBounds i u) := by
  obtain ⟨t, h⟩ := h
  exact ⟨t, by simp [World.setCell, Array.getElem?_modify, h]⟩
theorem Bk.far {w : World} {b : Nat} {cs : Array Value} (h : Bk w b cs) {p : Addr} (hp : b ≠ p.block) (u : Value) : Bk (w.setCell p u) b cs := by
  obtain ⟨t, h⟩ := h
  exact ⟨t, (Below.heap_setCell w p u b hp).trans h⟩
theorem Bk.drewN {w : World} {b : Nat} {cs : Array Value} (h : Bk w b cs) (n : Nat) : Bk (w.drewN n) b cs := h
theorem Bk.drew {w : World} {b : Nat} {cs : Array Value} (h : Bk w b cs) : Bk w.drew b cs := h
end Go.Proofs.YtheidjagcafgnaaDoor
namespace Go.Proofs.YtheidjagcafgnaaDoor
open Go.RowKit
set_option maxRecDepth 100000
theorem strinf : (Tryd.prog.info? 9).map (fun i => (i.zero, i.size, i.bytes)) = some (some (.string ⟨#[]⟩), 1, 16) := by kernel_rfl
theorem strSz : (Tryd.prog.info? 9).map (·.size) = some 1 := by kernel_rfl
/-- a row of strings in a block of its own -/
def Sr (w : World) (g n : Nat) (f : Nat → ByteArray) : Prop := Cv w g n (fun i => .string (f i))
def strsV (n : Nat) (f : Nat → ByteArray) : List Value := (List.range n).map fun i => .string (f i)
theorem strsV_length (n : Nat) (f : Nat → ByteArray) : (strsV n f).length = n := by simp [strsV]
theorem strsV_get {n : Nat} {f : Nat → ByteArray} {j : Nat} (hj : j < n) : (strsV n f)[j]? = some (.string (f j)) := by simp [strsV, hj]
theorem Sr.of_own {w : World} {B g n c : Nat} {f : Nat → ByteArray} (h : w.ownsRow B 9 1 (.slice (some ⟨g, 0, none⟩) n c) n (strsV n f)) : Sr w g n f := by
  intro i hi
  refine ⟨by rw [h.cellAt i (by omega), strsV_get hi], ?_⟩
  rcases h.2 with ⟨hv, _⟩ | ⟨g', cap', cur, hv, h1, h2, _⟩
  · cases hv
  · injection hv with hv; injection hv with hv; injection hv with hv
    subst hv
    simp [World.frozen?, h2]
theorem clone_strs (g n c : Nat) (f : Nat → ByteArray) (w : World) (hx : Sr w g n f) (h0 : 0 < n) (hn : n ≤ 10000) :
    Calls Tryd.prog 23 #[.slice (some ⟨g, 0, none⟩) n c] w fun e w' => (∃ g' c', e = .returned (.slice (some ⟨g', 0, none⟩) n c') ∧ Sr w' g' n f ∧ w.heap.size ≤ g' ∧ g' < w'.heap.size) ∧ Ext w w' := by
  obtain ⟨i0, hi, hz0, hz1, hz2⟩ := info_parts strinf
  have HX := Lib.hid hx
  have q22 := fun (w : World) (a : Option Addr) (n c n' c' : Nat) => Lib.run_eql_slice_nil (P := Tryd.prog) w 35 _ a n c n' c' Tryd.underlying35
  clear hx
  go_enter Tryd.func23, Tryd.ntmps23
  go_wp2_with (at_builtin; refine wpList_append_own_at _ rfl _ _ 35 rfl w.heap.size 9 i0 (.string ⟨#[]⟩) 1 16 Tryd.underlying35 hi hz0 hz1 hz2 rfl (by decide) _ _ _ rfl (World.ownsRow_made w #[] 0 (Nat.le_refl _) (Nat.zero_le _) rfl) ⟨g, 0, none⟩ n c (strsV n f) rfl ?qc1 ?qc2 ?qc3 ?qc4 ?qc5 ?qc6 ?_)
  case qc1 => rw [strsV_length]; omega
  case qc2 =>
    intro j u hj
    have hjn : j < n := by
      have := (List.getElem?_eq_some_iff.1 hj).1
      rwa [strsV_length] at this
    rw [strsV_get hjn] at hj
    injection hj with hj
    subst hj
    rw [add_plain]
    exact (((Ext.refl w).alloc _).keeps (S := fun _ => False) |>.cell (p := ⟨g, j, none⟩) (World.block_lt_of_cell? w _ (HX.out j hjn).1) id).trans (HX.out j hjn).1
  case qc3 => intro u hu; obtain ⟨x, _, rfl⟩ := List.mem_map.1 hu; rfl
  case qc4 => unfold maxLen; omega
  case qc5 => omega
  case qc6 => simp
  intro v' w1 hown hgrow hnil hat
  go_wp2_with fail
  go_ret
  have ho : w1.ownsRow w.heap.size 9 1 v' n (strsV n f) := by simpa using hown
  obtain ⟨g', c', rfl, _, hlt⟩ := ownsRow_some ho h0
  refine ⟨⟨g', c', rfl, Sr.of_own ho, (ho.lt g' rfl).1, hlt⟩, ?_⟩
  exact ((Below.refl _ w).alloc (Nat.le_refl _) _).grown hgrow (by simp) (by intro k hk; simp [Value.ownBlock] at hk; omega)
def repL (c q : Nat) (s : ByteArray) : List Value := List.replicate q (.string s) ++ List.replicate (c - q) (.string ⟨#[]⟩)
theorem repL_step (c q k : Nat) (s : ByteArray) (h : q + k ≤ c) : ((repL c q s).take q ++ List.replicate k (.string s) ++ (repL c q s).drop (q + k)) = repL c (q + k) s := by
  unfold repL
  rw [List.take_left' (by simp), List.drop_append, List.drop_of_length_le (by simp), List.nil_append, List.length_replicate, List.drop_replicate, List.replicate_append_replicate]
  congr 2
  omega
theorem repL_len (c q : Nat) (s : ByteArray) (h : q ≤ c) : (repL c q s).length = c := by unfold repL; simp; omega
theorem repL_made (c : Nat) (s : ByteArray) : (madeCells #[Value.string ⟨#[]⟩] c).toList = repL c 0 s := by
  unfold repL
  apply List.ext_getElem
  · simp [madeCells]
  · intro i h1 h2
    simp [madeCells, Nat.mod_one]
set_option linter.unusedSimpArgs false in
set_option maxHeartbeats 4000000 in
theorem reps_any (x c : Nat) (s : ByteArray) (w : World) (hx : w.cell? ⟨x, 0, none⟩ = some (.string s)) (hc1 : 1 ≤ c) (hc : c ≤ 10000) :
    Calls Tryd.prog 21 #[.slice (some ⟨x, 0, none⟩) 1 1, .int .i64 (c : Int)] w fun e w' => (∃ g' c', e = .returned (.slice (some ⟨g', 0, none⟩) c c') ∧ Sr w' g' c (fun _ => s) ∧ w.heap.size ≤ g' ∧ g' < w'.heap.size) ∧ Ext w w' := by
  have hmk := run_make_row' (P := Tryd.prog) 35 9 (.string ⟨#[]⟩) 16 Tryd.underlying35 strinf rfl .i64 .i64 c (by omega) (by omega)
  have n2 : ¬ (c : Int) < 0 := by omega
  have wu : IntKind.u64.wrap (c : Int) = (c : Int) := by rw [IntKind.wrap_u64]; omega
  have wi : IntKind.i64.wrap (c : Int) = (c : Int) := by rw [IntKind.wrap_i64]; omega
  have n3 : ¬ (9223372036854775807 : Int) < (c : Int) := by omega
  have HX := Lib.hid hx
  clear hx
  go_enter Tryd.func21, Tryd.ntmps21
  go_wp2_with fail
  refine (mul_one c (by omega) w).mono ?_
  rintro e w2 ⟨rfl, rfl⟩
  go_upto_region 7 with fail
  clear hmk n2 wu wi n3
  have hg : (w2.alloc (.cells (madeCells #[.string ⟨#[]⟩] c) 9)).heap[w2.heap.size]? = some (.cells (repL c 0 s).toArray 9 (0, 0)) := by
    rw [← repL_made, Array.toArray_toList]
    exact heap_alloc_new w2 _
  refine wp_world (fun wz => Hid (wz.heap[w2.heap.size]? = some (.cells (repL c 0 s).toArray 9 (0, 0))) ∧ Hid (Ext w2 wz) ∧ Hid (wz.cell? ⟨x, 0, none⟩ = some (.string s))) ⟨Lib.hid hg, Lib.hid (Ext.alloc (Ext.refl _) _), Lib.hid ((((Ext.refl w2).alloc _).keeps (S := fun _ => False) |>.cell (p := ⟨x, 0, none⟩) (World.block_lt_of_cell? w2 _ HX.out) id).trans HX.out)⟩ ?_
  clear hg HX
  obtain ⟨G, hG⟩ : ∃ G, w2.heap.size = G := ⟨_, rfl⟩
  rw [hG]
  have HG := Lib.hid hG
  clear hG
  rintro w3 ⟨HW, HE, HC⟩
  have hcp := run_copy_row (P := Tryd.prog) w3 35 35 3 9 G 0 c c ⟨x, 0, none⟩ 1 1 (repL c 0 s).toArray 9 (List.replicate 1 (.string s)) Tryd.underlying35 strSz HW.out (by simp [Nat.min_def]; omega) (by
    intro j v hj
    have : j = 0 := by have := (List.getElem?_eq_some_iff.1 hj).1; simp at this; omega
    subst this
    simp at hj
    subst hj
    rw [add_plain]; exact HC.out) (by rw [List.size_toArray, repL_len c 0 s (by omega)]; simp; omega) (by simp [Value.oneCell'])
  have hst := repL_step c 0 1 s (by omega)
  rw [Nat.zero_add] at hst
  rw [List.length_replicate, Nat.zero_add] at hcp
  rw [show (repL c 0 s).toArray.toList = repL c 0 s from rfl, hst] at hcp
  have HS3 := Lib.hid (setRow_heap w3 G (repL c 0 s).toArray (repL c 1 s).toArray 9 (0, 0) HW.out)
  have HE3 := Lib.hid (below_setRow (B := G) (w0 := w2) (by rw [← HG.out]; exact HE.out) (Nat.le_refl G) (repL c 1 s).toArray)
  clear hst HW HE HC
  go_wp2_with fail
  clear hcp
  refine wp_world (fun wz => Hid (wz.heap[G]? = some (.cells (repL c 1 s).toArray 9 (0, 0))) ∧ Hid (Below G w2 wz)) ⟨HS3, HE3⟩ ?_
  clear HS3 HE3
  rintro w4 ⟨HS, HE⟩
  go_loopg [8] (c - 1) (fun k cc wr => ∃ q : Nat, 1 ≤ q ∧ q + k = c ∧ cc = .int .i64 (q : Int) ∧ Hid (wr.heap[G]? = some (.cells (repL c q s).toArray 9 (0, 0))) ∧ Hid (Below G w2 wr))
  case atStart => exact ⟨1, Nat.le_refl _, by omega, rfl, HS, HE⟩
  case round =>
    clear HS HE
    obtain ⟨q, hq1, hqk, rfl, HS, HE⟩ := hrel
    by_cases hlt : q < c
    · obtain ⟨D, hD⟩ : ∃ D, c - q = D := ⟨_, rfl⟩
      obtain ⟨k, hk⟩ : ∃ k, Nat.min q D = k := ⟨_, rfl⟩
      have hk1 : 1 ≤ k ∧ q + k ≤ c ∧ k ≤ q ∧ k ≤ D := by have e : Nat.min q D = min q D := rfl; rw [e] at hk; omega
      have hcp := run_copy_row (P := Tryd.prog) wr.drew 35 35 3 9 G q D D ⟨G, 0, none⟩ q c (repL c q s).toArray 9 (List.replicate k (.string s)) Tryd.underlying35 strSz HS.out (by rw [List.length_replicate]; exact hk.symm) (by
        intro j v hj
        have hj1 : j < k := by have := (List.getElem?_eq_some_iff.1 hj).1; simpa using this
        rw [List.getElem?_replicate, if_pos hj1] at hj
        rw [add_plain]
        have h1 : wr.drew.cell? ⟨G, j, none⟩ = (repL c q s).toArray[j]? := by
          have h2 : wr.drew.heap[G]? = some (.cells (repL c q s).toArray 9 (0, 0)) := HS.out
          rw [Lib.cell_of_heap h2]
        rw [h1, List.getElem?_toArray]
        unfold repL
        rw [List.getElem?_append_left (by simp; omega), List.getElem?_replicate, if_pos (by omega)]
        exact hj) (by rw [List.size_toArray, repL_len c q s (by omega), List.length_replicate]; omega) (by intro v hv; rw [List.eq_of_mem_replicate hv]; rfl)
      rw [List.length_replicate, show (repL c q s).toArray.toList = repL c q s from rfl, repL_step c q k s hk1.2.1] at hcp
      obtain ⟨Q2, hQ2⟩ : ∃ z, q + k = z := ⟨_, rfl⟩
      rw [hQ2] at hcp
      have HS2 := Lib.hid (setRow_heap wr G (repL c q s).toArray (repL c Q2 s).toArray 9 (0, 0) HS.out)
      have HE2 := Lib.hid (below_setRow (B := G) (w0 := w2) (Below.drew HE.out) (Nat.le_refl G) (repL c Q2 s).toArray)
      have hDI : (c : Int) - (q : Int) = (D : Int) := by omega
      have hql : q ≤ c := by omega
      have hqk2 : (q : Int) + (k : Int) = (Q2 : Int) := by omega
      have HK := Lib.hid (And.intro hk1 (And.intro hD hQ2))
      have wq_ : ∀ z, z = (Q2 : Int) → IntKind.i64.wrap z = z := by rintro _ rfl; rw [IntKind.wrap_i64]; omega
      clear hk HS HE hk1 hQ2
      have mixed : Tryd.prog.follows .mixedOrders = true := by kernel_rfl
      go_wp2_with fail
      go_region_o
      all_goals (go_wp2_with fail)
      all_goals (go_roundg (c - Q2))
      all_goals first
        | (have := HK.out; omega)
        | exact ⟨Q2, by have := HK.out; omega, by have := HK.out; omega, rfl, HS2, HE2⟩
    · obtain rfl : q = c := by omega
      go_wp2_with fail
      go_ret
      refine ⟨⟨G, q, rfl, fun i hi => ?_, by rw [HG.out]; exact Nat.le_refl _, lt_of_block HS.out⟩, by have := HE.out; rw [← HG.out] at this; exact this⟩
      have h2 := HS.out
      refine ⟨?_, by simp [World.frozen?, h2]⟩
      rw [Lib.cell_of_heap h2, List.getElem?_toArray]
      unfold repL
      rw [List.getElem?_append_left (by simp; omega), List.getElem?_replicate, if_pos hi]
theorem wrinf : (Tryd.prog.info? 64).map (fun i => (i.zero, i.size, i.bytes)) = some (some (.agg #[.int .i64 0, .string ⟨#[]⟩]), 2, 24) := by kernel_rfl
/-- a row of writes that wait: in a block of its own, or none -/
def wtV : List (Nat × ByteArray) → List Value
  | [] => []
  | p :: l => .int .i64 (p.1 : Int) :: .string p.2 :: wtV l
theorem wtV_length : ∀ l, (wtV l).length = l.length * 2
  | [] => rfl
  | p :: l => by simp only [wtV, List.length_cons, wtV_length l]; omega
theorem wtV_append : ∀ l l', wtV (l ++ l') = wtV l ++ wtV l'
  | [], l' => rfl
  | p :: l, l' => by simp only [List.cons_append, wtV, wtV_append l l']
theorem wtV_one : ∀ (l : List (Nat × ByteArray)), ∀ u ∈ wtV l, u.oneCell' = true
  | [], u, hu => by cases hu
  | p :: l, u, hu => by
    simp only [wtV, List.mem_cons] at hu
    rcases hu with rfl | rfl | hu
    · rfl
    · rfl
    · exact wtV_one l u hu
theorem wtV_get0 : ∀ (l : List (Nat × ByteArray)) (i : Nat) (p : Nat × ByteArray), l[i]? = some p → (wtV l)[i * 2]? = some (.int .i64 (p.1 : Int)) ∧ (wtV l)[i * 2 + 1]? = some (.string p.2)
  | [], i, p, h => by simp at h
  | q :: l, 0, p, h => by simp at h; subst h; exact ⟨rfl, rfl⟩
  | q :: l, i + 1, p, h => by
    have := wtV_get0 l i p (by simpa using h)
    rw [show (i + 1) * 2 = i * 2 + 1 + 1 by omega]
    simpa [wtV] using this
theorem clone_wr (B : Nat) (v : Value) (l : List (Nat × ByteArray)) (w : World) (hx : w.ownsRow B 64 2 v l.length (wtV l)) (hn : l.length ≤ 10000) :
    Calls Tryd.prog 31 #[v] w fun e w' => (∃ v', e = .returned v' ∧ w'.ownsRow w.heap.size 64 2 v' l.length (wtV l)) ∧ Ext w w' := by
  obtain ⟨i0, hi, hz0, hz1, hz2⟩ := info_parts wrinf
  have q22 := fun (w : World) (a : Option Addr) (n c n' c' : Nat) => Lib.run_eql_slice_nil (P := Tryd.prog) w 58 _ a n c n' c' Tryd.underlying58
  have HX := Lib.hid hx
  rcases ownsRow_slice hx with ⟨rfl, h0⟩ | ⟨g, c, rfl⟩
  · clear hx
    have hl : l = [] := List.eq_nil_of_length_eq_zero h0
    subst hl
    go_enter Tryd.func31, Tryd.ntmps31
    go_wp2_with fail
    go_ret
    exact ⟨⟨_, rfl, World.ownsRow_nil _ _ _ _⟩, Ext.refl _⟩
  · clear hx
    obtain ⟨n, hn0⟩ : ∃ n, l.length = n := ⟨_, rfl⟩
    have HN := Lib.hid hn0
    rw [hn0] at hn HX ⊢
    clear hn0
    go_enter Tryd.func31, Tryd.ntmps31
    go_wp2_with (at_builtin; refine wpList_append_own_at _ rfl _ _ 58 rfl w.heap.size 64 i0 _ 2 24 Tryd.underlying58 hi hz0 hz1 hz2 rfl (by decide) _ _ _ rfl (World.ownsRow_made w #[] 0 (Nat.le_refl _) (Nat.zero_le _) rfl) ⟨g, 0, none⟩ n c (wtV l) rfl ?qc1 ?qc2 ?qc3 ?qc4 ?qc5 ?qc6 ?_)
    case qc1 => rw [wtV_length, HN.out]
    case qc2 =>
      intro j u hj
      rw [add_plain]
      have hc := HX.out.cellAt j (by have := (List.getElem?_eq_some_iff.1 hj).1; rw [wtV_length, HN.out] at this; exact this)
      rw [hj] at hc
      exact (((Ext.refl w).alloc _).keeps (S := fun _ => False) |>.cell (p := ⟨g, j, none⟩) (World.block_lt_of_cell? w _ hc) id).trans hc
    case qc3 => exact wtV_one l
    case qc4 => unfold maxLen; omega
    case qc5 => omega
    case qc6 => simp
    intro v' w1 hown hgrow hnil hat
    go_wp2_with fail
    go_ret
    exact ⟨⟨v', rfl, by simpa using hown⟩, ((Below.refl _ w).alloc (Nat.le_refl _) _).grown hgrow (by simp) (by intro k hk; simp [Value.ownBlock] at hk; omega)⟩
end Go.Proofs.YtheidjagcafgnaaDoor
namespace Go.Proofs.YtheidjagcafgnaaDoor.Dk
set_option maxRecDepth 100000
structure DM where
  left : Int
  kept : Nat → ByteArray
  now : Nat → ByteArray
  ws : List (Nat × ByteArray)
def upS (f : Nat → ByteArray) (i : Nat) (s : ByteArray) : Nat → ByteArray := fun j => if j = i then s else f j
def dec (l : Int) : Int := if 0 < l then l - 1 else l
def pad (s : ByteArray) : ByteArray := s ++ zB (64 - s.size)
def new : DM := ⟨-1, fun _ => zB 64, fun _ => zB 64, []⟩
def wr (m : DM) (i : Nat) (s : ByteArray) : DM := ⟨dec m.left, m.kept, upS m.now i s, m.ws ++ [(i, s)]⟩
def fl (m : DM) : DM := ⟨dec m.left, m.now, m.now, []⟩
/-- what is kept behind k of the writes that waited -/
def crk (keep : Nat → Bool) (ws : List (Nat × ByteArray)) (f : Nat → ByteArray) : Nat → Nat → ByteArray
  | 0 => f
  | k + 1 => match ws[k]? with
    | some p => if keep k then upS (crk keep ws f k) p.1 p.2 else crk keep ws f k
    | none => crk keep ws f k
def cr (m : DM) (keep : Nat → Bool) : DM := ⟨-1, crk keep m.ws m.kept m.ws.length, crk keep m.ws m.kept m.ws.length, []⟩
structure Ok (n : Nat) (m : DM) (b : Nat) : Prop where
  left : -1 ≤ m.left ∧ m.left ≤ 9223372036854775807
  ws : ∀ p ∈ m.ws, p.1 < n
  len : m.ws.length ≤ b
theorem Ok.new (n : Nat) : Ok n new 0 := ⟨by unfold Dk.new; simp, (fun p hp => by cases hp), Nat.le_refl _⟩
theorem dec_ok {l : Int} (h : -1 ≤ l ∧ l ≤ 9223372036854775807) : -1 ≤ dec l ∧ dec l ≤ 9223372036854775807 := by unfold dec; split <;> omega
theorem Ok.wr {n b i : Nat} {m : DM} {s : ByteArray} (h : Ok n m b) (hi : i < n) : Ok n (wr m i s) (b + 1) := by
  refine ⟨dec_ok h.left, fun p hp => ?_, by unfold Dk.wr; simp; exact h.len⟩
  unfold Dk.wr at hp
  simp only [List.mem_append, List.mem_singleton] at hp
  rcases hp with hp | rfl
  · exact h.ws p hp
  · exact hi
theorem Ok.fl {n b : Nat} {m : DM} (h : Ok n m b) : Ok n (fl m) b := ⟨dec_ok h.left, (fun p hp => by cases hp), Nat.zero_le _⟩
theorem Ok.cr {n b : Nat} {m : DM} (keep : Nat → Bool) (_h : Ok n m b) : Ok n (cr m keep) b := ⟨by unfold Dk.cr; simp, (fun p hp => by cases hp), Nat.zero_le _⟩
theorem Ok.fail {n b : Nat} {m : DM} {k : Int} (h : Ok n m b) (h0 : 0 ≤ k) (h1 : k ≤ 9223372036854775807) : Ok n { m with left := k } b := ⟨⟨by simp; omega, h1⟩, h.ws, h.len⟩
theorem Ok.up {n b c : Nat} {m : DM} (h : Ok n m b) (hc : b ≤ c) : Ok n m c := ⟨h.left, h.ws, Nat.le_trans h.len hc⟩
end Go.Proofs.YtheidjagcafgnaaDoor.Dk
