/- What chunks a file holds, as a list. -/
import Derived.Test.YtkfjcgcgfdibaaaDoorCk
namespace Go.Proofs.YtkfjcgcgfdibaaaDoor
open Go.RowKit
inductive PStep where
  | next (n : Nat) (c : Ck)
  | bad (c : Nat)
/-- what stands at the head of the rest of a file -/
def pstep (T : ByteArray) : PStep :=
  if T.size < 12 then .bad 0
  else if T.size - 12 < valN (T.extract 0 4).data.toList then .bad 0
  else if kindB (T.extract 4 8).data.toList = false then .bad 0
  else if valN (T.extract (8 + valN (T.extract 0 4).data.toList) (12 + valN (T.extract 0 4).data.toList)).data.toList ≠ Crc.crc (T.extract 4 (8 + valN (T.extract 0 4).data.toList)).data.toList then .bad 3
  else .next (valN (T.extract 0 4).data.toList) ⟨T.extract 4 8, T.extract 8 (8 + valN (T.extract 0 4).data.toList)⟩
inductive PRes where
  | ok (L : List Ck)
  | bad (c i : Nat)
def parse (s : ByteArray) : Nat → Nat → List Ck → PRes
  | 0, _, acc => .ok acc
  | f + 1, p, acc => if s.size ≤ p then .ok acc else match pstep (s.extract p s.size) with
    | .bad c => .bad c p
    | .next n c => parse s f (p + 12 + n) (acc ++ [c])
def readL (s : ByteArray) : PRes := if s.data.toList.take 8 = sigB then parse s (s.size + 1) 8 [] else .bad 0 0
theorem parse_end {s : ByteArray} {f p : Nat} {acc : List Ck} (h : s.size ≤ p) : parse s f p acc = .ok acc := by
  cases f with
  | zero => rfl
  | succ f => unfold parse; rw [if_pos h]
theorem parse_bad {s T : ByteArray} {f p c : Nat} {acc : List Ck} (h : p < s.size) (hf : s.size - p < f) (hT : s.extract p s.size = T) (hb : pstep T = .bad c) : parse s f p acc = .bad c p := by
  cases f with
  | zero => omega
  | succ f => unfold parse; rw [if_neg (by omega), hT, hb]
theorem parse_next {s T : ByteArray} {f p n : Nat} {c : Ck} {acc : List Ck} (h : p < s.size) (hf : s.size - p < f) (hT : s.extract p s.size = T) (hb : pstep T = .next n c) : ∃ f', s.size - (p + 12 + n) < f' ∧ parse s f p acc = parse s f' (p + 12 + n) (acc ++ [c]) := by
  cases f with
  | zero => omega
  | succ f =>
    refine ⟨f, by omega, ?_⟩
    show (if s.size ≤ p then PRes.ok acc else match pstep (s.extract p s.size) with
      | .bad c => .bad c p
      | .next n c => parse s f (p + 12 + n) (acc ++ [c])) = _
    rw [if_neg (by omega), hT, hb]
theorem pstep_short {T : ByteArray} (h : T.size < 12) : pstep T = .bad 0 := by unfold pstep; rw [if_pos h]
theorem pstep_over {T T4 : ByteArray} {n : Nat} (h : ¬ T.size < 12) (h4 : T.extract 0 4 = T4) (hn : valN T4.data.toList = n) (hb : T.size - 12 < n) : pstep T = .bad 0 := by
  unfold pstep; rw [if_neg h, h4, hn, if_pos hb]
theorem pstep_kind {T T4 K : ByteArray} {n : Nat} (h : ¬ T.size < 12) (h4 : T.extract 0 4 = T4) (hn : valN T4.data.toList = n) (hb : ¬ T.size - 12 < n) (hK : T.extract 4 8 = K) (hk : kindB K.data.toList = false) : pstep T = .bad 0 := by
  unfold pstep; rw [if_neg h, h4, hn, if_neg hb, hK, if_pos hk]
theorem pstep_sum {T T4 K A B : ByteArray} {n u v : Nat} (h : ¬ T.size < 12) (h4 : T.extract 0 4 = T4) (hn : valN T4.data.toList = n) (hb : ¬ T.size - 12 < n) (hK : T.extract 4 8 = K) (hk : kindB K.data.toList = true)
    (hB : T.extract (8 + n) (12 + n) = B) (hA : T.extract 4 (8 + n) = A) (hu : valN B.data.toList = u) (hv : Crc.crc A.data.toList = v) (hne : u ≠ v) : pstep T = .bad 3 := by
  unfold pstep; rw [if_neg h, h4, hn, if_neg hb, hK, if_neg (by rw [hk]; decide), hB, hA, hu, hv, if_pos hne]
theorem pstep_next {T T4 K A B D : ByteArray} {n u v : Nat} (h : ¬ T.size < 12) (h4 : T.extract 0 4 = T4) (hn : valN T4.data.toList = n) (hb : ¬ T.size - 12 < n) (hK : T.extract 4 8 = K) (hk : kindB K.data.toList = true)
    (hB : T.extract (8 + n) (12 + n) = B) (hA : T.extract 4 (8 + n) = A) (hD : T.extract 8 (8 + n) = D) (hu : valN B.data.toList = u) (hv : Crc.crc A.data.toList = v) (hne : ¬ u ≠ v) : pstep T = .next n ⟨K, D⟩ := by
  unfold pstep; rw [if_neg h, h4, hn, if_neg hb, hK, if_neg (by rw [hk]; decide), hB, hA, hu, hv, if_neg hne, hD]
end Go.Proofs.YtkfjcgcgfdibaaaDoor
