/- Codes: the words of lengths. -/
import Derived.Test.YtkddbhngffbljaaDoorValid
import Derived.Deep.OwnRows
namespace Go.Proofs.YtkddbhngffbljaaDoor
open Go.RowKit
set_option maxRecDepth 100000
/-- the first word of each length -/
def first (f : Nat → Int) (len : Nat) : Nat → Nat
  | 0 => 0
  | 1 => 0
  | n + 2 => (first f len (n + 1) + many f (n + 1) len) * 2
/-- the word of element i -/
def word (f : Nat → Int) (len i : Nat) : Nat := if 0 < f i then first f len (f i).toNat + many f (f i).toNat i else 0
theorem first_succ (f : Nat → Int) (len n : Nat) (h : 1 ≤ n) : first f len (n + 1) = (first f len n + many f n len) * 2 := by
  match n, h with
  | n + 1, _ => rfl
theorem first_kraft (f : Nat → Int) (len : Nat) : ∀ n, n ≤ 14 → first f len (n + 1) * 2 ^ (14 - n) = kraft f len n := by
  intro n
  induction n with
  | zero => intro _; rfl
  | succ n ih =>
    intro h
    have h1 := ih (by omega)
    show (first f len (n + 1) + many f (n + 1) len) * 2 * 2 ^ (14 - (n + 1)) = kraft f len n + many f (n + 1) len * 2 ^ (14 - n)
    rw [← h1, ← Nat.add_mul, Nat.mul_assoc, show 14 - n = (14 - (n + 1)) + 1 by omega, Nat.pow_succ, Nat.mul_comm 2]
theorem many_mono (f : Nat → Int) (n : Nat) : ∀ j i, i ≤ j → many f n i ≤ many f n j := by
  intro j
  induction j with
  | zero => intro i h; have : i = 0 := by omega
            subst this; exact Nat.le_refl _
  | succ j ih =>
    intro i h
    rcases Nat.lt_or_ge i (j + 1) with q | q
    · exact Nat.le_trans (ih i (by omega)) (by show _ ≤ many f n j + _; omega)
    · have : i = j + 1 := by omega
      subst this; exact Nat.le_refl _
theorem many_at (f : Nat → Int) (n i : Nat) (h : f i = n) : many f n (i + 1) = many f n i + 1 := by simp [many, h]
theorem many_not (f : Nat → Int) (n i : Nat) (h : ¬ f i = n) : many f n (i + 1) = many f n i := by simp [many, h]
theorem many_all (f : Nat → Int) (n : Nat) : ∀ i, many f n i = i → ∀ j, j < i → f j = n := by
  intro i
  induction i with
  | zero => intro _ j hj; omega
  | succ i ih =>
    intro h j hj
    have h1 := many_le f n i
    have h2 : many f n (i + 1) = many f n i + if f i = n then 1 else 0 := rfl
    rw [h2] at h
    split at h
    · rcases Nat.lt_succ_iff_lt_or_eq.1 hj with q | rfl
      · exact ih (by omega) j q
      · assumption
    · omega
theorem many_disj (f : Nat → Int) (n m : Nat) (hnm : n ≠ m) : ∀ i, many f n i + many f m i ≤ i := by
  intro i
  induction i with
  | zero => exact Nat.le_refl _
  | succ i ih =>
    show (many f n i + if f i = n then 1 else 0) + (many f m i + if f i = m then 1 else 0) ≤ i + 1
    split <;> split <;> omega
theorem many_three (f : Nat → Int) (n m k : Nat) (h1 : n ≠ m) (h2 : n ≠ k) (h3 : m ≠ k) : ∀ i, many f n i + many f m i + many f k i ≤ i := by
  intro i
  induction i with
  | zero => exact Nat.le_refl _
  | succ i ih =>
    show (many f n i + if f i = n then 1 else 0) + (many f m i + if f i = m then 1 else 0) + (many f k i + if f i = k then 1 else 0) ≤ i + 1
    split <;> split <;> split <;> omega
theorem kraft_mono (f : Nat → Int) (len : Nat) : ∀ m n, n ≤ m → kraft f len n ≤ kraft f len m := by
  intro m
  induction m with
  | zero => intro n h; have : n = 0 := by omega
            subst this; exact Nat.le_refl _
  | succ m ih =>
    intro n h
    rcases Nat.lt_or_ge n (m + 1) with q | q
    · exact Nat.le_trans (ih n (by omega)) (by show _ ≤ kraft f len m + _; omega)
    · have : n = m + 1 := by omega
      subst this; exact Nat.le_refl _
theorem kraft_zero (f : Nat → Int) (len : Nat) (h : len = many f 0 len) : ∀ n, kraft f len n = 0 := by
  intro n
  induction n with
  | zero => rfl
  | succ n ih =>
    have h1 := many_disj f 0 (n + 1) (by omega) len
    have h2 : many f (n + 1) len = 0 := by omega
    show kraft f len n + many f (n + 1) len * _ = 0
    rw [ih, h2]; simp
theorem kraft_one (f : Nat → Int) (len : Nat) (h : len = many f 0 len + 1) (h1 : many f 1 len = 1) : ∀ n, kraft f len n ≤ 16384 := by
  intro n
  induction n with
  | zero => exact Nat.zero_le _
  | succ n ih =>
    show kraft f len n + many f (n + 1) len * _ ≤ 16384
    by_cases hn : n = 0
    · subst hn; show 0 + many f 1 len * 2 ^ 14 ≤ _; rw [h1]; decide
    · have h3 := many_three f 0 1 (n + 1) (by omega) (by omega) (by omega) len
      have h2 : many f (n + 1) len = 0 := by omega
      rw [h2]; simpa using ih
/-- words of a length stay below what the length allows -/
theorem room (f : Nat → Int) (len : Nat) (h : complete f len) (n : Nat) (hn : n ≤ 14) : first f len (n + 1) + many f (n + 1) len ≤ 2 ^ (n + 1) := by
  have hk : kraft f len (n + 1) ≤ 32768 := by
    rcases h with h | ⟨h, h1⟩ | h
    · rw [kraft_zero f len h]; decide
    · have := kraft_one f len h h1 (n + 1); omega
    · rw [← h]; exact kraft_mono f len 15 (n + 1) (by omega)
  have h1 := first_kraft f len n hn
  have h2 : kraft f len (n + 1) = (first f len (n + 1) + many f (n + 1) len) * 2 ^ (14 - n) := by
    show kraft f len n + _ = _; rw [← h1, Nat.add_mul]
  rw [h2] at hk
  have h3 : (32768 : Nat) = 2 ^ (n + 1) * 2 ^ (14 - n) := by rw [← Nat.pow_add, show n + 1 + (14 - n) = 15 by omega]
  rw [h3] at hk
  exact Nat.le_of_mul_le_mul_right hk (Nat.two_pow_pos _)
theorem room' (f : Nat → Int) (len : Nat) (h : complete f len) (k : Nat) (h1 : 1 ≤ k) (h2 : k ≤ 15) : first f len k + many f k len ≤ 2 ^ k := by
  have := room f len h (k - 1) (by omega)
  rwa [show k - 1 + 1 = k by omega] at this
/-- a word is below its length's room -/
theorem word_lt (f : Nat → Int) (len : Nat) (hc : complete f len) (i k : Nat) (hi : i < len) (hk : f i = k) (h1 : 1 ≤ k) (h2 : k ≤ 15) : first f len k + many f k i + 1 ≤ first f len k + many f k len ∧ first f len k + many f k len ≤ 2 ^ k ∧ (2 : Nat) ^ k ≤ 2 ^ 15 := by
  have h := many_mono f k len (i + 1) hi
  rw [many_at f k i hk] at h
  have hr := room' f len hc k h1 h2
  exact ⟨by omega, hr, Nat.pow_le_pow_right (by decide) h2⟩
theorem zero16u (w : World) : (zeroValue 93).run Tryd.prog w = .ok (.agg (Array.replicate 16 (.int .u32 0))) w := by kernel_rfl
theorem u32info : (Tryd.prog.info? 28).map (fun i => (i.zero, i.size, i.bytes)) = some (some (.int .u32 0), 1, 4) := by kernel_rfl
def U32s (w : World) (x : Option Addr) (len : Nat) (g : Nat → Nat) : Prop := (x = none → len = 0) ∧ ∀ a, x = some a → ∀ i, i < len → w.cell? (a.add i) = some (.int .u32 (g i : Int))
theorem codes_bad (x : Option Addr) (len cap : Nat) (f : Nat → Int) (w : World) (hx : Ints w x len f) (hl : len ≤ maxLen)
    (EB ES : Addr) (hB : w.cell? ⟨1, 0, none⟩ = some (.iface 101 (.pointer (some EB)))) (hS : w.cell? ⟨2, 0, none⟩ = some (.iface 101 (.pointer (some ES)))) (h : ¬ (inBounds f len ∧ complete f len)) :
    Calls Tryd.prog 33 #[.slice x len cap] w fun e w' => Ext w w' ∧
      ((e = .returned (.tuple #[.slice none 0 0, .iface 101 (.pointer (some EB))]) ∧ ¬ inBounds f len) ∨ (e = .returned (.tuple #[.slice none 0 0, .iface 101 (.pointer (some ES))]) ∧ inBounds f len)) := by
  have HH := Lib.hid h
  clear h
  go_enter Tryd.func33, Tryd.ntmps33
  go_wp2_with fail
  refine (valid_calls x len cap f w hx hl _ _ hB hS).mono ?_
  rintro e w1 ⟨hE, h1 | h1 | h1⟩
  · exact absurd h1.2 HH.out
  · obtain ⟨rfl, hb⟩ := h1
    have HB := Lib.hid hb
    clear hb
    go_wp2_with fail
    exact bodyPost_ret (v := .tuple #[.slice none 0 0, .iface 101 (.pointer (some EB))]) (by simp [results, Tryd.results33, go_sem, *]) rfl ⟨hE, .inl ⟨rfl, HB.out⟩⟩
  · obtain ⟨rfl, hb, _⟩ := h1
    have HB := Lib.hid hb
    clear hb
    go_wp2_with fail
    exact bodyPost_ret (v := .tuple #[.slice none 0 0, .iface 101 (.pointer (some ES))]) (by simp [results, Tryd.results33, go_sem, *]) rfl ⟨hE, .inr ⟨rfl, HB.out⟩⟩
theorem codes_good (x : Option Addr) (len cap : Nat) (f : Nat → Int) (w : World) (hx : Ints w x len f) (hl : len ≤ maxLen) (hb : inBounds f len) (hc : complete f len)
    (EB ES : Value) (hB : w.cell? ⟨1, 0, none⟩ = some EB) (hS : w.cell? ⟨2, 0, none⟩ = some ES) :
    Calls Tryd.prog 33 #[.slice x len cap] w fun e w' => Ext w w' ∧ ∃ B, w.heap.size ≤ B ∧ e = .returned (.tuple #[.slice (some ⟨B, 0, none⟩) len len, .nilIface]) ∧ Cs w' B len .u32 (fun i => (word f len i : Int)) := by
  have HX := Lib.hid hx
  have HB := Lib.hid hb
  have HC := Lib.hid hc
  have h300 := hb.1
  clear hb hc
  go_enter Tryd.func33, Tryd.ntmps33
  go_wp2_with fail
  refine (valid_calls x len cap f w hx hl _ _ hB hS).mono ?_
  rintro e w1 ⟨hE, h1 | h1 | h1⟩
  · obtain ⟨rfl, _⟩ := h1
    have HX1 := Lib.hid (HX.out.ext hE)
    have HE := Lib.hid hE
    clear hx hE
    go_wp2_with fail
    refine (words_calls x len cap f w1 HX1.out hl HB.out.2).mono ?_
    rintro e w2 ⟨rfl, rfl⟩
    have hst := run_storeCells_new (P := Tryd.prog) (w1.alloc (.cells (cellsI .i64 16 fun n => (many f n len : Int)) 91)) 91 (Array.replicate 16 (.int .i64 0)) (cellsI .i64 16 fun n => (many f n len : Int)) (by rw [cellsI_size]; kernel_rfl) (by rw [cellsI_size]; rfl) (by simp [cellsI, Value.oneCell'])
    rw [show (w1.alloc (.cells (cellsI .i64 16 fun n => (many f n len : Int)) 91)).heap.size = w1.heap.size + 1 by simp] at hst
    have hz := zero16
    have hzu := zero16u
    go_wp2_with fail
    clear hst hz hzu
    rw [cellsI_zero]
    have f1 := Cs.born w1 .i64 16 (fun n => (many f n len : Int)) 91
    have f2 := Cs.born (w1.alloc (.cells (cellsI .i64 16 fun n => (many f n len : Int)) 91)) .i64 16 (fun n => (many f n len : Int)) 91
    have f3 := Cs.born ((w1.alloc (.cells (cellsI .i64 16 fun n => (many f n len : Int)) 91)).alloc (.cells (cellsI .i64 16 fun n => (many f n len : Int)) 91)) .u32 16 (fun _ => 0) 93
    have g2 := f2.alloc (by simp) (.cells (cellsI .u32 16 fun _ => 0) 93)
    have hE3 : Ext w (((w1.alloc (.cells (cellsI .i64 16 fun n => (many f n len : Int)) 91)).alloc (.cells (cellsI .i64 16 fun n => (many f n len : Int)) 91)).alloc (.cells (cellsI .u32 16 fun _ => 0) 93)) := ((HE.out.alloc _).alloc _).alloc _
    have G2 : Hid (Cs (((w1.alloc (.cells (cellsI .i64 16 fun n => (many f n len : Int)) 91)).alloc (.cells (cellsI .i64 16 fun n => (many f n len : Int)) 91)).alloc (.cells (cellsI .u32 16 fun _ => 0) 93)) (w1.heap.size + 1) 16 .i64 (fun n => (many f n len : Int))) := Lib.hid (by simpa using g2)
    have G3 : Hid (Cs (((w1.alloc (.cells (cellsI .i64 16 fun n => (many f n len : Int)) 91)).alloc (.cells (cellsI .i64 16 fun n => (many f n len : Int)) 91)).alloc (.cells (cellsI .u32 16 fun _ => 0) 93)) (w1.heap.size + 1 + 1) 16 .u32 (fun _ => 0)) := Lib.hid (by simpa using f3)
    have H3 := Lib.hid hE3
    have hw1 : w.heap.size ≤ w1.heap.size := HE.out.size
    clear f1 f2 f3 g2 hE3
    generalize (((w1.alloc (.cells (cellsI .i64 16 fun n => (many f n len : Int)) 91)).alloc (.cells (cellsI .i64 16 fun n => (many f n len : Int)) 91)).alloc (.cells (cellsI .u32 16 fun _ => 0) 93)) = w3 at *
    go_loopw [7] (fun v wr => ∃ n : Nat, 1 ≤ n ∧ n ≤ 15 ∧ v = .int .i64 (n + 1) ∧ Hid (Cs wr (w1.heap.size + 1) 16 .i64 (fun n => (many f n len : Int))) ∧ Hid (Cs wr (w1.heap.size + 1 + 1) 16 .u32 (fun k => if k ≤ n then (first f len k : Int) else 0)) ∧ Hid (Below w.heap.size w wr)) (fun v _ => 16 - (intOf v).toNat)
    case atStart =>
      refine ⟨1, by omega, by omega, rfl, G2, ?_, H3⟩
      have : (fun k : Nat => if k ≤ 1 then (first f len k : Int) else 0) = fun _ => 0 := by
        funext k
        match k with
        | 0 => rfl
        | 1 => rfl
        | k + 2 => simp
      rw [this]; exact G3
    case round =>
      obtain ⟨n, hn1, hn, rfl, HM, HN, HW⟩ := hrel
      by_cases hlt : n < 15
      · obtain ⟨c1, _⟩ := HM.out n (by omega)
        have c2 : wr.cell? ⟨w1.heap.size + 1 + 1, n, none⟩ = some (.int .u32 (first f len n : Int)) := by have := (HN.out n (by omega)).1; simpa using this
        have c3 : wr.cell? ⟨w1.heap.size + 1 + 1, n + 1, none⟩ = some (.int .u32 0) := by have := (HN.out (n + 1) (by omega)).1; simpa [show ¬ n + 1 ≤ n by omega] using this
        have c4 := (HN.out (n + 1) (by omega)).2
        have hroom : first f len n + many f n len ≤ 2 ^ n := by
          have := room f len HC.out (n - 1) (by omega)
          rwa [show n - 1 + 1 = n by omega] at this
        have hp : 2 ^ n ≤ 2 ^ 14 := Nat.pow_le_pow_right (by decide) (by omega)
        have b1 : first f len n + many f n len ≤ 16384 := by omega
        clear hroom hp
        go_wp2_with fail
        go_region
        go_wp2_with fail
        have e1 : (((first f len n : Nat) : Int) + (many f n len : Int)) * 2 = (first f len (n + 1) : Int) := by rw [first_succ f len n hn1]; omega
        rw [e1]
        refine ⟨⟨n + 1, by omega, by omega, by go_num, Lib.hid ?_, Lib.hid ?_, Lib.hid ?_⟩, by simp [intOf]; omega⟩
        · exact (HM.out.other _ _ (by show w1.heap.size + 1 + 1 ≠ w1.heap.size + 1; omega)).drew
        · refine (HN.out.put (n + 1) _ _ (by omega) ?_).drew
          intro k hk
          by_cases e : k = n + 1
          · subst e; simp
          · rw [if_neg e]
            by_cases e2 : k ≤ n
            · rw [if_pos e2, if_pos (by omega)]
            · rw [if_neg e2, if_neg (by omega)]
        · exact (HW.out.setCell (by show w.heap.size ≤ w1.heap.size + 1 + 1; omega) _).drew
      · obtain rfl : n = 15 := by omega
        have hmk := run_make_row' (P := Tryd.prog) 48 28 (.int .u32 0) 4 Tryd.underlying48 u32info rfl .i64 .i64 len (by omega) (by omega)
        have hlt2 : w1.heap.size + 1 + 1 < wr.heap.size := World.block_lt_of_cell? wr _ (HN.out 0 (by omega)).1
        go_wp2_with fail
        rw [made_eq]
        clear hmk
        have H1 := Lib.hid (Cs.born wr .u32 len (fun _ => 0) 28)
        have H2 := Lib.hid (HN.out.alloc hlt2 (.cells (cellsI .u32 len fun _ => 0) 28))
        have H4 := Lib.hid (HW.out.alloc HW.out.size (.cells (cellsI .u32 len fun _ => 0) 28))
        have hwr : w.heap.size ≤ wr.heap.size := HW.out.size
        generalize (wr.alloc (.cells (cellsI .u32 len fun _ => 0) 28)) = w4 at *
        clear HM HN HW G2 G3 H3
        generalize wr.heap.size = BO at *
        clear wr
        go_loopw [9, 10, 40] (fun _ _ v wr => ∃ i : Nat, i ≤ len ∧ v = .int .i64 i ∧ Hid (Cs wr (w1.heap.size + 1 + 1) 16 .u32 (fun k => if k = 0 then 0 else ((first f len k + many f k i : Nat) : Int))) ∧ Hid (Cs wr BO len .u32 (fun j => if j < i then (word f len j : Int) else 0)) ∧ Hid (Below w.heap.size w wr)) (fun _ _ v _ => len - (intOf v).toNat)
        case atStart =>
          refine ⟨0, by omega, rfl, Lib.hid (H2.out.congr ?_), Lib.hid (H1.out.congr ?_), H4⟩
          · intro k hk
            by_cases e : k = 0
            · subst e; rfl
            · rw [if_neg e, if_pos (by omega)]; rfl
          · intro j hj; rw [if_neg (by omega)]
        case round =>
          obtain ⟨i, hi, rfl, HN, HO, HW⟩ := hrel
          by_cases hlt : i < len
          · obtain ⟨a, rfl⟩ : ∃ a, x = some a := by
              cases x with
              | none => have := HX.out.1 rfl; omega
              | some a => exact ⟨a, rfl⟩
            have hab := HX.out.block (by omega)
            obtain ⟨hc, h1, h2⟩ := (HX.out.on (S := fun k => w.heap.size ≤ k) (Keeps.of_below HW.out) (fun b hb => by injection hb with hb; subst hb; show ¬ _ ≤ _; omega)).2 a rfl i hlt
            obtain ⟨q1, q2⟩ := HB.out.2 i hlt
            obtain ⟨k, hk⟩ : ∃ k : Nat, f i = k := ⟨(f i).toNat, by omega⟩
            have HK := Lib.hid hk
            rw [hk] at hc h1 h2 q1 q2
            clear hk
            by_cases hk0 : k = 0
            · subst hk0
              go_wp2_with fail
              refine ⟨⟨i + 1, by omega, by go_num, Lib.hid (HN.out.congr ?_), Lib.hid (HO.out.congr ?_), HW⟩, by simp [intOf]; omega⟩
              · intro k hk
                by_cases e : k = 0
                · rw [if_pos e, if_pos e]
                · rw [if_neg e, if_neg e, many_not f k i (by have := HK.out; omega)]
              · intro j hj
                by_cases e : j = i
                · subst e
                  have : ¬ 0 < f j := by have := HK.out; omega
                  simp [word, this]
                · by_cases e2 : j < i
                  · rw [if_pos e2, if_pos (by omega)]
                  · rw [if_neg e2, if_neg (by omega)]
            · have c1 : wr.cell? ⟨w1.heap.size + 1 + 1, k, none⟩ = some (.int .u32 ((first f len k + many f k i : Nat) : Int)) := by have := (HN.out k (by omega)).1; simpa [hk0] using this
              have c2 := (HN.out k (by omega)).2
              have c3 := (HO.out i hlt).1
              have c4 := (HO.out i hlt).2
              obtain ⟨w1', w2', w3'⟩ := word_lt f len HC.out i k hlt HK.out (by omega) (by omega)
              have wb : first f len k + many f k i + 1 ≤ 32768 := by omega
              clear w1' w2' w3'
              go_wp2_with fail
              have e1 : ((first f len k : Nat) : Int) + (many f k i : Int) + 1 = ((first f len k + many f k (i + 1) : Nat) : Int) := by rw [many_at f k i HK.out]; omega
              have e2 : ((first f len k : Nat) : Int) + (many f k i : Int) = (word f len i : Int) := by
                have h0 : 0 < f i := by have := HK.out; omega
                have h3 : (f i).toNat = k := by have := HK.out; omega
                unfold word; rw [if_pos h0, h3]; omega
              rw [e1, e2]
              refine ⟨⟨i + 1, by omega, by go_num, Lib.hid ?_, Lib.hid ?_, Lib.hid ?_⟩, by simp [intOf]; omega⟩
              · refine (HN.out.other _ _ (by show BO ≠ _; omega)).put k _ _ (by omega) ?_
                intro m hm
                by_cases e : m = k
                · subst e; simp [hk0]
                · rw [if_neg e]
                  by_cases e2 : m = 0
                  · rw [if_pos e2, if_pos e2]
                  · rw [if_neg e2, if_neg e2, many_not f m i (by have := HK.out; omega)]
              · refine (HO.out.put i _ _ hlt ?_).other _ _ (by show w1.heap.size + 1 + 1 ≠ _; omega)
                intro j hj
                by_cases e : j = i
                · subst e; simp
                · rw [if_neg e]
                  by_cases e2 : j < i
                  · rw [if_pos e2, if_pos (by omega)]
                  · rw [if_neg e2, if_neg (by omega)]
              · exact (HW.out.setCell (by show w.heap.size ≤ BO; omega) _).setCell (by show w.heap.size ≤ w1.heap.size + 1 + 1; omega) _
          · obtain rfl : i = len := by omega
            go_wp2_with fail
            exact bodyPost_ret (v := .tuple #[.slice (some ⟨BO, 0, none⟩) i i, .nilIface]) (by simp [results, Tryd.results33, go_sem, *]) rfl ⟨HW.out, BO, hwr, rfl, HO.out.congr fun j hj => by rw [if_pos hj]⟩
  · exact absurd HB.out h1.2
  · exact absurd HC.out h1.2.2
end Go.Proofs.YtkddbhngffbljaaDoor
