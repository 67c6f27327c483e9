/- What is written is read as it was. -/
import Derived.Test.YtkfjcgcgfdibaaaDoorChkLaw
namespace Go.Proofs.YtkfjcgcgfdibaaaDoor
open Go.RowKit
theorem bext {a b : ByteArray} (h : a.data.toList = b.data.toList) : a = b := by
  cases a; cases b; exact congrArg _ (Array.ext' h)
theorem mid {x y z l : List UInt8} {a b : Nat} (hl : l = x ++ (y ++ z)) (ha : x.length = a) (hb : y.length = b) : (l.drop a).take b = y := by
  subst hl ha hb
  rw [List.drop_left, List.take_left]
theorem ex_mid {T Y : ByteArray} {x z : List UInt8} {a b : Nat} (hl : T.data.toList = x ++ (Y.data.toList ++ z)) (ha : x.length = a) (hb : a + Y.size = b) : T.extract a b = Y := by
  apply bext
  rw [exl]
  exact mid hl ha (show Y.data.toList.length = b - a from by have : Y.data.toList.length = Y.size := rfl; omega)
theorem pstep_enc {T : ByteArray} {c : Ck} {rest : List UInt8} (hk : kindB c.k.data.toList = true) (hd : c.d.size ≤ 5000) (hT : T.data.toList = enc c ++ rest) : pstep T = .next c.d.size c := by
  have h4 : c.k.data.toList.length = 4 := by unfold kindB at hk; simp at hk; simpa using hk.1
  have hks : c.k.size = 4 := h4
  have hdl : c.d.data.toList.length = c.d.size := rfl
  have hlen : T.size = 12 + c.d.size + rest.length := by
    have : T.data.toList.length = T.size := rfl
    rw [← this, hT, List.length_append, enc_length c hk]
  obtain ⟨z, hz⟩ : ∃ z, Crc.crc (c.k.data.toList ++ c.d.data.toList) = z := ⟨_, rfl⟩
  have hzl : z < 4294967296 := by rw [← hz]; exact Crc.flip_lt (Crc.run_lt (by decide) _)
  unfold enc at hT
  rw [hz] at hT
  have x1 : T.extract 0 4 = ⟨(big4 c.d.size).toArray⟩ := ex_mid (x := []) (z := c.k.data.toList ++ c.d.data.toList ++ big4 z ++ rest) (by rw [hT]; simp) rfl rfl
  have x2 : T.extract 4 8 = c.k := ex_mid (x := big4 c.d.size) (z := c.d.data.toList ++ big4 z ++ rest) (by rw [hT]; simp) rfl (by omega)
  have x3 : T.extract (8 + c.d.size) (12 + c.d.size) = ⟨(big4 z).toArray⟩ := ex_mid (x := big4 c.d.size ++ c.k.data.toList ++ c.d.data.toList) (z := rest) (by rw [hT]; simp) (by rw [List.length_append, List.length_append, big4_length, h4, hdl]) (by show _ + 4 = _; omega)
  have x4 : T.extract 4 (8 + c.d.size) = c.k ++ c.d := ex_mid (x := big4 c.d.size) (z := big4 z ++ rest) (by rw [hT, ByteArray.data_append, Array.toList_append]; simp) rfl (by rw [ByteArray.size_append]; omega)
  have x5 : T.extract 8 (8 + c.d.size) = c.d := ex_mid (x := big4 c.d.size ++ c.k.data.toList) (z := big4 z ++ rest) (by rw [hT]; simp) (by rw [List.length_append, big4_length, h4]) rfl
  exact pstep_next (n := c.d.size) (u := z) (v := z) (by omega) x1 (valN_big4 _ (by omega)) (by omega) x2 hk x3 x4 x5 (valN_big4 _ hzl) (by rw [ByteArray.data_append, Array.toList_append]; exact hz) (fun h => h rfl)
theorem parse_enc {s : ByteArray} : ∀ (M : List Ck) (f p : Nat) (acc : List Ck), (∀ c ∈ M, kindB c.k.data.toList = true ∧ c.d.size ≤ 5000) → p ≤ s.size → s.data.toList.drop p = M.flatMap enc → s.size - p < f → parse s f p acc = .ok (acc ++ M) := by
  intro M
  induction M with
  | nil =>
    intro f p acc _ hp hd hf
    have : s.size ≤ p := by
      have := congrArg List.length hd
      rw [List.length_drop] at this
      have e : s.data.toList.length = s.size := rfl
      simp at this
      omega
    rw [parse_end this, List.append_nil]
  | cons c M ih =>
    intro f p acc hM hp hd hf
    obtain ⟨hk, hs⟩ := hM c (List.mem_cons_self ..)
    have hle := enc_length c hk
    have e : s.data.toList.length = s.size := rfl
    have hlen := congrArg List.length hd
    rw [List.length_drop, List.flatMap_cons, List.length_append, hle] at hlen
    have hT : (s.extract p s.size).data.toList = enc c ++ M.flatMap enc := by
      rw [exl, List.take_of_length_le (by rw [List.length_drop]; omega), hd, List.flatMap_cons]
    obtain ⟨f', hf', hp'⟩ := parse_next (acc := acc) (show p < s.size by omega) hf rfl (pstep_enc hk hs hT)
    rw [hp', ih f' _ (acc ++ [c]) (fun q hq => hM q (List.mem_cons_of_mem _ hq)) (by omega) ?_ hf', List.append_assoc]
    · rfl
    · rw [show p + 12 + c.d.size = p + (12 + c.d.size) by omega, ← List.drop_drop, hd, List.flatMap_cons, ← hle, List.drop_left]
theorem fileL_enc {L : List Ck} : ∀ {k : Nat} {out : List UInt8}, k ≤ L.length → fileL L k = .ok out → out = sigB ++ (L.take k).flatMap enc ∧ ∀ c ∈ L.take k, kindB c.k.data.toList = true := by
  intro k
  induction k with
  | zero => intro out _ h; injection h with h; subst h; exact ⟨by simp, fun c h => by simp at h⟩
  | succ k ih =>
    intro out hk h
    simp only [fileL] at h
    split at h
    · rename_i q hq
      obtain ⟨h1, h2⟩ := ih (by omega) hq
      have hc : L[k]? = some L[k] := List.getElem?_eq_getElem (by omega)
      rw [hc] at h
      simp only at h
      have ht : L.take (k + 1) = L.take k ++ [L[k]] := by rw [List.take_add_one, hc]; rfl
      unfold fstep at h
      split at h
      · rename_i hkd
        split at h
        · cases h
        · injection h with h
          subst h
          rw [ht, List.flatMap_append, h1]
          refine ⟨by simp, fun c hc => ?_⟩
          rcases List.mem_append.1 hc with hc | hc
          · exact h2 c hc
          · rw [List.mem_singleton.1 hc]; exact hkd
      · cases h
    · cases h
theorem write_read {L : List Ck} {out : List UInt8} (hO : ∀ c ∈ L, c.d.size ≤ 5000) (h : fileL L L.length = .ok out) : readL ⟨out.toArray⟩ = .ok L := by
  obtain ⟨h1, h2⟩ := fileL_enc (Nat.le_refl _) h
  rw [List.take_length] at h1 h2
  unfold readL
  have hd : (⟨out.toArray⟩ : ByteArray).data.toList = out := rfl
  rw [hd]
  have e8 : sigB.length = 8 := rfl
  rw [if_pos (by rw [h1, ← e8, List.take_left])]
  have hsz : (⟨out.toArray⟩ : ByteArray).size = out.length := rfl
  have := parse_enc (s := ⟨out.toArray⟩) L ((⟨out.toArray⟩ : ByteArray).size + 1) 8 [] (fun c hc => ⟨h2 c hc, hO c hc⟩) (by rw [hsz, h1, List.length_append, e8]; omega) (by rw [hd, h1, ← e8, List.drop_left]) (by omega)
  simpa using this
end Go.Proofs.YtkfjcgcgfdibaaaDoor
