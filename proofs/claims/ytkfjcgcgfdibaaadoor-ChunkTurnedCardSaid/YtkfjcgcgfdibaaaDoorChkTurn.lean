/- One bit turned in a kind, in data or in a sum: the file has an error. -/
import Derived.Test.YtkfjcgcgfdibaaaDoorChkLaw2
import Derived.Test.YtkfjcgcgfdibaaaDoorBurst
namespace Go.Proofs.YtkfjcgcgfdibaaaDoor
open Go.RowKit
theorem pstep_alt {T : ByteArray} {n : Nat} {Y B rest : List UInt8} (hT : T.data.toList = big4 n ++ (Y ++ (B ++ rest))) (hY : Y.length = 4 + n) (hB : B.length = 4) (hn : n ≤ 5000) (hne : valN B ≠ Crc.crc Y) : ∃ e, e < 9 ∧ pstep T = .bad e := by
  have hl : T.size = 12 + n + rest.length := by
    have : T.data.toList.length = T.size := rfl
    rw [← this, hT, List.length_append, List.length_append, List.length_append, big4_length, hY, hB]; omega
  have x1 : (T.extract 0 4).data.toList = big4 n := by rw [exl]; exact mid (x := []) (by rw [hT]; rfl) rfl rfl
  have x3 : (T.extract (8 + n) (12 + n)).data.toList = B := by
    rw [exl]; exact mid (x := big4 n ++ Y) (z := rest) (by rw [hT]; simp) (by rw [List.length_append, big4_length, hY]; omega) (by rw [hB]; omega)
  have x4 : (T.extract 4 (8 + n)).data.toList = Y := by
    rw [exl]; exact mid (x := big4 n) (z := B ++ rest) hT rfl (by rw [hY]; omega)
  by_cases hk : kindB (T.extract 4 8).data.toList = true
  · exact ⟨3, by decide, pstep_sum (n := n) (u := valN B) (v := Crc.crc Y) (by omega) rfl (by rw [x1]; exact valN_big4 _ (by omega)) (by omega) rfl hk rfl rfl (by rw [x3]) (by rw [x4]) hne⟩
  · exact ⟨0, by decide, pstep_kind (n := n) (by omega) rfl (by rw [x1]; exact valN_big4 _ (by omega)) (by omega) rfl (by simpa using hk)⟩
theorem crc_flip (l : List UInt8) (j t : Nat) (c : UInt8) (hj : j < l.length) (ht : t < 8) (hc : c.toNat = l[j].toNat ^^^ 2 ^ t) (hne : l[j] ≠ c) : Crc.crc l ≠ Crc.crc (l.set j c) := by
  have hm : Crc.num (l.set j c) = Crc.num l ^^^ Crc.turned 1 (8 * j + t) (8 * l.length) 32 := by
    rw [Crc.num_flip l j t c hj hc, Crc.turned_all 1 _ _ (by decide) (by omega), Nat.mod_eq_of_lt (Nat.one_lt_two_pow (by omega)), Nat.one_mul]
  rcases Crc.burst l (l.set j c) 1 (8 * j + t) (by simp) (by decide) (by omega) hm with h | h
  · intro _
    apply hne
    have := congrArg (fun x => x[j]?) h
    simp only [List.getElem?_set_self hj, List.getElem?_eq_getElem hj] at this
    injection this with this
    exact this.symm
  · exact fun e => h e.symm
theorem set_sum {z j : Nat} {v : UInt8} (hz : z < 4294967296) (hj : j < 4) (hv : (big4 z)[j]? ≠ some v) : valN ((big4 z).set j v) ≠ z := by
  intro h
  have h4 : ((big4 z).set j v).length = 4 := by rw [List.length_set]; rfl
  have := big4_of h4
  rw [h] at this
  apply hv
  rw [this, List.getElem?_set_self (by show j < 4; exact hj)]
/-- where the chunks begin -/
def off (M : List Ck) : Nat → Nat
  | 0 => 0
  | i + 1 => match M with
    | [] => 0
    | c :: M => 12 + c.d.size + off M i
theorem parse_turned {s : ByteArray} {v : UInt8} : ∀ (M : List Ck) (f p q : Nat) (acc : List Ck), (∀ c ∈ M, kindB c.k.data.toList = true ∧ c.d.size ≤ 5000) → p ≤ s.size → q < (M.flatMap enc).length → (∀ i, i < M.length → ¬ (off M i ≤ q ∧ q < off M i + 4)) →
    (∃ t, t < 8 ∧ ∃ o, (M.flatMap enc)[q]? = some o ∧ v.toNat = o.toNat ^^^ 2 ^ t) → s.data.toList.drop p = (M.flatMap enc).set q v → s.size - p < f → ∃ e i, e < 9 ∧ i ≤ s.size ∧ parse s f p acc = .bad e i := by
  intro M
  induction M with
  | nil => intro f p q acc _ _ hq; simp at hq
  | cons c M ih =>
    intro f p q acc hM hp hq hno ht hd hf
    obtain ⟨hk, hs⟩ := hM c (List.mem_cons_self ..)
    have hle := enc_length c hk
    have e : s.data.toList.length = s.size := rfl
    have hlen := congrArg List.length hd
    rw [List.length_drop, List.length_set, List.flatMap_cons, List.length_append, hle] at hlen
    rw [List.flatMap_cons] at hd ht hq
    have hlt : p < s.size := by omega
    have hTd : (s.extract p s.size).data.toList = s.data.toList.drop p := by rw [exl, List.take_of_length_le (by rw [List.length_drop]; omega)]
    by_cases hq2 : 12 + c.d.size ≤ q
    · rw [List.set_append_right _ _ (by omega), hle] at hd
      obtain ⟨f', hf', hp'⟩ := parse_next (acc := acc) hlt hf rfl (pstep_enc hk hs (hTd.trans hd))
      rw [hp']
      obtain ⟨t, ht8, o, ho, hv⟩ := ht
      rw [List.getElem?_append_right (by omega), hle] at ho
      rw [List.length_append, hle] at hq
      refine ih f' _ (q - (12 + c.d.size)) (acc ++ [c]) (fun x hx => hM x (List.mem_cons_of_mem _ hx)) (by omega) (by omega) (fun i hi h => hno (i + 1) (by simp; omega) ?_) ⟨t, ht8, o, ho, hv⟩ ?_ hf'
      · simp only [off]; omega
      · rw [show p + 12 + c.d.size = p + (12 + c.d.size) by omega, ← List.drop_drop, hd, ← hle, List.drop_left]
    · have h4q : 4 ≤ q := by
        have := hno 0 (by simp)
        simp only [off] at this
        omega
      rw [List.set_append_left _ _ (by omega)] at hd
      obtain ⟨t, ht8, o, ho, hv⟩ := ht
      rw [List.getElem?_append_left (by omega)] at ho
      have hdl : c.d.data.toList.length = c.d.size := rfl
      have h4 : c.k.data.toList.length = 4 := by unfold kindB at hk; simp at hk; simpa using hk.1
      obtain ⟨Y, hY⟩ : ∃ Y, c.k.data.toList ++ c.d.data.toList = Y := ⟨_, rfl⟩
      have hYl : Y.length = 4 + c.d.size := by rw [← hY, List.length_append, h4, hdl]
      have henc : enc c = big4 c.d.size ++ (Y ++ big4 (Crc.crc Y)) := by unfold enc; rw [hY, List.append_assoc (big4 _), hY, List.append_assoc]
      have hzl : Crc.crc Y < 4294967296 := Crc.flip_lt (Crc.run_lt (by decide) _)
      have hne : o ≠ v := by
        intro h
        subst h
        have := congrArg (fun x => Nat.testBit x t) hv
        simp [Nat.testBit_xor] at this
      rw [henc, List.set_append_right _ _ (by rw [big4_length]; omega), big4_length] at hd
      rw [henc, List.getElem?_append_right (by rw [big4_length]; omega), big4_length] at ho
      have hbad : ∃ e, e < 9 ∧ pstep (s.extract p s.size) = .bad e := by
        by_cases hq3 : q - 4 < Y.length
        · rw [List.set_append_left _ _ hq3] at hd
          rw [List.getElem?_append_left hq3] at ho
          refine pstep_alt (n := c.d.size) (Y := Y.set (q - 4) v) (B := big4 (Crc.crc Y)) (rest := M.flatMap enc) (by rw [hTd, hd]; simp) (by rw [List.length_set]; exact hYl) rfl hs ?_
          rw [valN_big4 _ hzl]
          have hoe : Y[q - 4] = o := by rw [List.getElem?_eq_getElem hq3] at ho; injection ho
          exact crc_flip Y (q - 4) t v hq3 ht8 (by rw [hoe]; exact hv) (by rw [hoe]; exact hne)
        · rw [List.set_append_right _ _ (by omega)] at hd
          rw [List.getElem?_append_right (by omega)] at ho
          refine pstep_alt (n := c.d.size) (Y := Y) (B := (big4 (Crc.crc Y)).set (q - 4 - Y.length) v) (rest := M.flatMap enc) (by rw [hTd, hd]; simp) hYl (by rw [List.length_set]; rfl) hs ?_
          exact set_sum hzl (by omega) (fun h => hne (by rw [ho] at h; injection h))
      obtain ⟨e', he9, hb⟩ := hbad
      exact ⟨e', p, he9, hp, parse_bad hlt hf rfl hb⟩
theorem off_zero (M : List Ck) : off M 0 = 0 := by unfold off; rfl
theorem off_succ : ∀ (M : List Ck) (k : Nat) (c : Ck), M[k]? = some c → off M (k + 1) = off M k + (12 + c.d.size) := by
  intro M
  induction M with
  | nil => intro k c h; cases h
  | cons x M ih =>
    intro k c h
    cases k with
    | zero => injection h with h; subst h; show 12 + x.d.size + off M 0 = off (x :: M) 0 + _; rw [off_zero, off_zero]; omega
    | succ k => show 12 + x.d.size + off M (k + 1) = 12 + x.d.size + off M k + _; rw [ih k c (by simpa using h)]; omega
theorem turned_bad {L : List Ck} {out : List UInt8} {p t : Nat} {o v : UInt8} (hO : ∀ c ∈ L, c.d.size ≤ 5000) (h : fileL L L.length = .ok out) (h8 : 8 ≤ p) (hno : ∀ i, i < L.length → ¬ (8 + off L i ≤ p ∧ p < 8 + off L i + 4)) (ht : t < 8)
    (ho : out[p]? = some o) (hv : v.toNat = o.toNat ^^^ 2 ^ t) : ∃ e i, e < 9 ∧ i ≤ out.length ∧ readL ⟨(out.set p v).toArray⟩ = .bad e i := by
  obtain ⟨h1, h2⟩ := fileL_enc (Nat.le_refl _) h
  rw [List.take_length] at h1 h2
  have hlt : p < out.length := (List.getElem?_eq_some_iff.1 ho).1
  have e8 : sigB.length = 8 := rfl
  have hs : out.set p v = sigB ++ (L.flatMap enc).set (p - 8) v := by rw [h1, List.set_append_right _ _ (by omega), e8]
  have hd : (⟨(out.set p v).toArray⟩ : ByteArray).data.toList = out.set p v := rfl
  have hsz : (⟨(out.set p v).toArray⟩ : ByteArray).size = out.length := by show (out.set p v).length = _; rw [List.length_set]
  have hol : out.length = 8 + (L.flatMap enc).length := by rw [h1, List.length_append, e8]
  rw [h1, List.getElem?_append_right (by omega), e8] at ho
  obtain ⟨e, i, he, hi, hp⟩ := parse_turned (s := ⟨(out.set p v).toArray⟩) (v := v) L ((⟨(out.set p v).toArray⟩ : ByteArray).size + 1) 8 (p - 8) [] (fun c hc => ⟨h2 c hc, hO c hc⟩) (by rw [hsz]; omega) (by omega) (fun i hi q => hno i hi (by omega)) ⟨t, ht, o, ho, hv⟩ (by rw [hd, hs, ← e8, List.drop_left]) (by omega)
  refine ⟨e, i, he, by rw [hsz] at hi; exact hi, ?_⟩
  unfold readL
  rw [hd, if_pos (by rw [hs, ← e8, List.take_left])]
  exact hp
end Go.Proofs.YtkfjcgcgfdibaaaDoor
