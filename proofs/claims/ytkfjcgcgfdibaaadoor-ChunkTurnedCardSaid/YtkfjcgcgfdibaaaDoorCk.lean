/- Rows of chunks as they lie in memory; what a file of chunks is, as a list. -/
import Derived.Test.YtkfjcgcgfdibaaaDoorNum
import Derived.Test.YtkfjcgcgfdibaaaDoorBox
namespace Go.Proofs.YtkfjcgcgfdibaaaDoor
open Go.RowKit
structure Ck where
  k : ByteArray
  d : ByteArray
def Ck.cells (c : Ck) : List Value := [.string c.k, .string c.d]
def ckL (L : List Ck) : List Value := L.flatMap Ck.cells
theorem ckL_length (L : List Ck) : (ckL L).length = L.length * 2 := by
  induction L with
  | nil => rfl
  | cons c L ih => simp only [ckL, List.flatMap_cons, List.length_append] at ih ⊢; rw [ih]; simp [Ck.cells]; omega
theorem ckL_snoc (L : List Ck) (c : Ck) : ckL (L ++ [c]) = ckL L ++ [.string c.k, .string c.d] := by simp [ckL, Ck.cells]
theorem ckL_get : ∀ (L : List Ck) (i : Nat) (c : Ck), L[i]? = some c → (ckL L)[i * 2]? = some (.string c.k) ∧ (ckL L)[i * 2 + 1]? = some (.string c.d) := by
  intro L
  induction L with
  | nil => intro i c h; cases h
  | cons x L ih =>
    intro i c h
    cases i with
    | zero => injection h with h; subst h; exact ⟨rfl, rfl⟩
    | succ i =>
      have := ih i c (by simpa using h)
      rw [show (i + 1) * 2 = (i * 2 + 1) + 1 by omega]
      exact this
theorem ckL_one (L : List Ck) : ∀ u ∈ ckL L, u.oneCell' = true := by
  intro u hu
  obtain ⟨c, _, hc⟩ := List.mem_flatMap.1 hu
  simp only [Ck.cells, List.mem_cons, List.not_mem_nil, or_false] at hc
  rcases hc with rfl | rfl <;> rfl
structure Ck.Ok (c : Ck) : Prop where
  k : c.k.size ≤ maxLen
  d : c.d.size ≤ 5000
/-- a row of chunks, wherever it lies -/
def Cks (w : World) (x : Option Addr) (L : List Ck) : Prop :=
  (x = none → L = []) ∧ ∀ a, x = some a → ∀ (i : Nat) (c : Ck), L[i]? = some c →
    w.cell? (a.add (i * 2)) = some (.string c.k) ∧ w.cell? ⟨(a.add (i * 2)).block, (a.add (i * 2)).off + 1, none⟩ = some (.string c.d)
theorem Cks.ext {w w' : World} {x : Option Addr} {L : List Ck} (h : Cks w x L) (hE : Ext w w') : Cks w' x L := by
  refine ⟨h.1, fun a ha i c hi => ?_⟩
  obtain ⟨c0, c1⟩ := h.2 a ha i c hi
  have hl : (a.add (i * 2)).block < w.heap.size := World.block_lt_of_cell? w _ c0
  exact ⟨(hE.keeps.cell (S := fun _ => False) hl id).trans c0, (hE.keeps.cell (S := fun _ => False) (p := ⟨_, _, none⟩) hl id).trans c1⟩
theorem Cks.isSome {w : World} {x : Option Addr} {L : List Ck} (h : Cks w x L) {i : Nat} (hi : i < L.length) : ∃ a, x = some a := by
  cases x with
  | none => rw [h.1 rfl] at hi; simp at hi
  | some a => exact ⟨a, rfl⟩
theorem Cks.of_own {w : World} {base : Nat} {e : TypeId} {v : Value} {L : List Ck} (h : w.ownsRow base e 2 v L.length (ckL L)) : ∃ x c, v = .slice x L.length c ∧ Cks w x L := by
  rcases ownsRow_slice h with ⟨rfl, h0⟩ | ⟨g, cap, rfl⟩
  · have hn : L = [] := List.eq_nil_of_length_eq_zero h0
    subst hn; exact ⟨none, 0, rfl, fun _ => rfl, fun a h => by cases h⟩
  · refine ⟨some ⟨g, 0, none⟩, cap, rfl, (fun h => by cases h), fun a ha i c hi => ?_⟩
    injection ha with ha; subst ha
    have hlt : i < L.length := (List.getElem?_eq_some_iff.1 hi).1
    obtain ⟨q0, q1⟩ := ckL_get L i c hi
    rw [add_plain]
    refine ⟨?_, ?_⟩
    · rw [h.cellAt _ (by omega), q0]
    · show w.cell? ⟨g, i * 2 + 1, none⟩ = _; rw [h.cellAt _ (by omega), q1]
/-- a chunk in a box of its own -/
def Cb (w : World) (K : Nat) (T : TypeId) (k d : ByteArray) : Prop := w.heap[K]? = some (.cells #[.string k, .string d] T (0, 0))
theorem Cb.lt {w : World} {K : Nat} {T : TypeId} {k d : ByteArray} (h : Cb w K T k d) : K < w.heap.size := lt_of_block h
theorem Cb.ext {w w' : World} {K : Nat} {T : TypeId} {k d : ByteArray} (h : Cb w K T k d) (hE : Ext w w') : Cb w' K T k d := (hE.block K (lt_of_block h)).trans h
theorem Cb.cell {w : World} {K : Nat} {T : TypeId} {k d : ByteArray} (h : Cb w K T k d) (i : Nat) : w.cell? ⟨K, i, none⟩ = (#[Value.string k, Value.string d] : Array Value)[i]? := Bk.cell ⟨T, h⟩ i
/-- what a chunk is in a file -/
def enc (c : Ck) : List UInt8 := big4 c.d.size ++ c.k.data.toList ++ c.d.data.toList ++ big4 (Crc.crc (c.k.data.toList ++ c.d.data.toList))
inductive FRes where
  | ok (out : List UInt8)
  | bad (c i : Nat)
def fstep (c : Ck) (k : Nat) (out : List UInt8) : FRes :=
  if kindB c.k.data.toList = true then (if 300000 < out.length + 12 + c.d.size then .bad 1 k else .ok (out ++ enc c)) else .bad 2 k
def fileL (L : List Ck) : Nat → FRes
  | 0 => .ok sigB
  | k + 1 => match fileL L k with
    | .ok out => (match L[k]? with | some c => fstep c k out | none => .ok out)
    | .bad c i => .bad c i
theorem fileL_succ {L : List Ck} {k : Nat} {out : List UInt8} {c : Ck} (h : fileL L k = .ok out) (hc : L[k]? = some c) : fileL L (k + 1) = fstep c k out := by
  simp only [fileL, h, hc]
theorem fileL_more {L : List Ck} {k c i : Nat} (h : fileL L k = .bad c i) : ∀ d, fileL L (k + d) = .bad c i := by
  intro d
  induction d with
  | zero => exact h
  | succ d ih => show fileL L (k + d + 1) = _; simp only [fileL, ih]
theorem fileL_bad {L : List Ck} {n k c : Nat} {out : List UInt8} {x : Ck} (h : fileL L k = .ok out) (hx : L[k]? = some x) (hs : fstep x k out = .bad c k) (hk : k < n) : fileL L n = .bad c k := by
  have h1 : fileL L (k + 1) = .bad c k := (fileL_succ h hx).trans hs
  have := fileL_more h1 (n - (k + 1))
  rwa [show k + 1 + (n - (k + 1)) = n by omega] at this
theorem big4_length (n : Nat) : (big4 n).length = 4 := rfl
theorem enc_length (c : Ck) (h : kindB c.k.data.toList = true) : (enc c).length = 12 + c.d.size := by
  have h4 : c.k.data.toList.length = 4 := by unfold kindB at h; simp at h; simpa using h.1
  have hd : c.d.data.toList.length = c.d.size := rfl
  unfold enc
  simp only [List.length_append, big4_length, h4, hd]; omega
theorem fstep_len {c : Ck} {k : Nat} {out o : List UInt8} (h : fstep c k out = .ok o) : o.length ≤ 300000 := by
  unfold fstep at h
  split at h
  · rename_i hk
    split at h
    · cases h
    · injection h with h; subst h; rw [List.length_append, enc_length c hk]; omega
  · cases h
theorem fileL_len {L : List Ck} : ∀ {n : Nat} {out : List UInt8}, fileL L n = .ok out → out.length ≤ 300000 := by
  intro n
  induction n with
  | zero => intro out h; injection h with h; subst h; decide
  | succ n ih =>
    intro out h
    simp only [fileL] at h
    split at h
    · rename_i q hq
      split at h
      · exact fstep_len h
      · injection h with h; subst h; exact ih hq
    · cases h
theorem fileL_cons {L : List Ck} : ∀ {n : Nat} {out : List UInt8}, fileL L n = .ok out → out ≠ [] := by
  intro n
  induction n with
  | zero => intro out h; injection h with h; subst h; decide
  | succ n ih =>
    intro out h
    simp only [fileL] at h
    split at h
    · rename_i q hq
      have := ih hq
      split at h
      · unfold fstep at h
        split at h
        · split at h
          · cases h
          · injection h with h; subst h; simp [this]
        · cases h
      · injection h with h; subst h; exact this
    · cases h
end Go.Proofs.YtkfjcgcgfdibaaaDoor
