/- What is read is written as it was. -/
import Derived.Test.YtkfjcgcgfdibaaaDoorChkP
namespace Go.Proofs.YtkfjcgcgfdibaaaDoor
open Go.RowKit
theorem exl (s : ByteArray) (a b : Nat) : (s.extract a b).data.toList = (s.data.toList.drop a).take (b - a) := by
  rw [ByteArray.data_extract, Array.toList_extract]
theorem big4_of {l : List UInt8} (h : l.length = 4) : big4 (valN l) = l := by
  match l, h with
  | [a, b, c, d], _ => exact big4_valN a b c d
theorem pstep_inv {T : ByteArray} {n : Nat} {c : Ck} (h : pstep T = .next n c) : 12 + n ≤ T.size ∧ kindB c.k.data.toList = true ∧ c.d.size = n ∧ c.k.size = 4 ∧ T.data.toList.take (12 + n) = enc c := by
  unfold pstep at h
  split at h
  · cases h
  rename_i h12
  split at h
  · cases h
  rename_i hn
  split at h
  · cases h
  rename_i hk
  split at h
  · cases h
  rename_i hs
  injection h with h1 h2
  rw [h1] at h2 hn hs
  have hT : T.data.toList.length = T.size := rfl
  have hs' := Classical.not_not.1 hs
  have hkk : kindB (T.extract 4 8).data.toList = true := by simpa using hk
  subst h2
  refine ⟨by omega, hkk, by show (T.extract 8 (8 + n)).size = n; rw [ByteArray.size_extract]; omega, by show (T.extract 4 8).size = 4; rw [ByteArray.size_extract]; omega, ?_⟩
  have hd : (T.extract 8 (8 + n)).size = n := by rw [ByteArray.size_extract]; omega
  unfold enc
  simp only [hd]
  have e4 : big4 n = T.data.toList.take 4 := by
    rw [← h1, big4_of]
    · rw [exl]; rfl
    · rw [exl, List.length_take, List.length_drop]; omega
  have e5 : (T.extract 4 8).data.toList ++ (T.extract 8 (8 + n)).data.toList = (T.extract 4 (8 + n)).data.toList := by
    rw [exl, exl, exl, show 8 + n - 4 = 4 + n by omega, List.take_add, List.drop_drop, show 8 + n - 8 = n by omega]
  rw [e5, ← hs', big4_of, List.append_assoc (big4 n), e5, e4, exl, exl]
  · rw [show 8 + n - 4 = 4 + n by omega, show 12 + n - (8 + n) = 4 by omega, show 12 + n = 4 + ((4 + n) + 4) by omega, List.take_add, List.take_add (i := 4 + n), List.drop_drop, show 4 + (4 + n) = 8 + n by omega, List.append_assoc]
  · rw [exl, List.length_take, List.length_drop]; omega
theorem fileL_app {L M : List Ck} : ∀ {k : Nat}, k ≤ L.length → fileL (L ++ M) k = fileL L k := by
  intro k
  induction k with
  | zero => intro _; rfl
  | succ k ih =>
    intro hk
    simp only [fileL, ih (by omega), List.getElem?_append_left (show k < L.length by omega)]
theorem fileL_snoc {L : List Ck} {c : Ck} {out : List UInt8} (h : fileL L L.length = .ok out) : fileL (L ++ [c]) (L ++ [c]).length = fstep c L.length out := by
  rw [List.length_append]
  exact fileL_succ ((fileL_app (Nat.le_refl _)).trans h) (by simp)
theorem parse_file {s : ByteArray} (hs : s.size ≤ 5000) : ∀ (f p : Nat) (acc L : List Ck), p ≤ s.size → s.size - p < f → acc.length ≤ p → (∀ c ∈ acc, c.Ok) → fileL acc acc.length = .ok (s.data.toList.take p) → parse s f p acc = .ok L →
    fileL L L.length = .ok s.data.toList ∧ (∀ c ∈ L, c.Ok) ∧ L.length ≤ 5000 := by
  intro f
  induction f with
  | zero => intro p acc L _ h; omega
  | succ f ih =>
    intro p acc L hp hf hl hok hfile h
    unfold parse at h
    have hlen : s.data.toList.length = s.size := rfl
    split at h
    · rename_i hge
      injection h with h
      subst h
      rw [List.take_of_length_le (by omega)] at hfile
      exact ⟨hfile, hok, by omega⟩
    · rename_i hlt
      split at h
      · cases h
      · rename_i n c hstep
        obtain ⟨i1, i2, i3, i4, i5⟩ := pstep_inv hstep
        rw [ByteArray.size_extract] at i1
        have hw : fstep c acc.length (s.data.toList.take p) = .ok (s.data.toList.take (p + 12 + n)) := by
          unfold fstep
          rw [if_pos i2, if_neg (by rw [List.length_take]; omega)]
          rw [exl, List.take_of_length_le (l := List.drop p s.data.toList) (by rw [List.length_drop]; omega)] at i5
          rw [← i5, show p + 12 + n = p + (12 + n) by omega, List.take_add (i := p)]
        refine ih (p + 12 + n) (acc ++ [c]) L (by omega) (by omega) (by rw [List.length_append]; simp; omega) ?_ ((fileL_snoc hfile).trans hw) h
        intro q hq
        rcases List.mem_append.1 hq with hq | hq
        · exact hok q hq
        · rw [List.mem_singleton.1 hq]; exact ⟨by rw [i4]; unfold maxLen; omega, by omega⟩
theorem read_write {s : ByteArray} {L : List Ck} (hs : s.size ≤ 5000) (h : readL s = .ok L) : fileL L L.length = .ok s.data.toList ∧ (∀ c ∈ L, c.Ok) ∧ L.length ≤ 5000 := by
  unfold readL at h
  split at h
  · rename_i hq
    have hl : 8 ≤ s.size := by
      have := congrArg List.length hq
      rw [List.length_take] at this
      have e1 : s.data.toList.length = s.size := rfl
      have e2 : sigB.length = 8 := rfl
      omega
    exact parse_file hs (s.size + 1) 8 [] L hl (by omega) (by simp) (fun c h => by cases h) (by rw [hq]; rfl) h
  · cases h
end Go.Proofs.YtkfjcgcgfdibaaaDoor
