/- Rows of a text, done by their best kinds, and back: the plain law. No function of the program is named. -/
import Derived.Test.YtkddbhngffbljaaDoorBest
namespace Go.Proofs.YtkddbhngffbljaaDoor
open Go.RowKit
set_option maxRecDepth 100000
def rowB (s : ByteArray) (w i : Nat) : ByteArray := s.extract (i * w) ((i + 1) * w)
def ahB (s : ByteArray) (w : Nat) : Nat → ByteArray
  | 0 => ⟨#[]⟩
  | i + 1 => rowB s w i
def bestI (s : ByteArray) (w step i : Nat) : Nat := bestS (rowB s w i) (ahB s w i) step
def chunkL (s : ByteArray) (w step i : Nat) : List UInt8 := UInt8.ofNat (bestI s w step i) :: (doS (bestI s w step i : Int) (rowB s w i) (ahB s w i) step).data.toList
def rowsL (s : ByteArray) (w step : Nat) : Nat → List UInt8
  | 0 => []
  | i + 1 => rowsL s w step i ++ chunkL s w step i
theorem bestS_le (row ahead : ByteArray) (step : Nat) (h : row.size ≤ 1000000) : bestS row ahead step ≤ 4 := by
  have q := (bst_bd (kindCost row ahead step) (fun k => kindCost_le row ahead step k h) 4).1
  unfold bestS
  show (bst (kindCost row ahead step) (4 + 1)).1 ≤ 4
  unfold bst
  split
  · exact Nat.le_refl _
  · exact q
theorem rowB_size {s : ByteArray} {w i n : Nat} (hn : s.size = n * w) (hi : i < n) : (rowB s w i).size = w := by
  unfold rowB
  rw [ByteArray.size_extract]
  have h1 : (i + 1) * w ≤ n * w := Nat.mul_le_mul_right w (by omega)
  rw [hn, Nat.min_eq_left h1, Nat.succ_mul]; omega
theorem ahB_ok {s : ByteArray} {w i n : Nat} (hn : s.size = n * w) (hi : i < n) : check2 (rowB s w i) (ahB s w i) := by
  cases i with
  | zero => exact .inl rfl
  | succ i => exact .inr (by rw [rowB_size hn hi]; exact rowB_size hn (by omega))
theorem chunkL_length {s : ByteArray} {w step i n : Nat} (hn : s.size = n * w) (hi : i < n) : (chunkL s w step i).length = w + 1 := by
  unfold chunkL
  rw [List.length_cons, Array.length_toList]
  show (doS _ _ _ _).size + 1 = _
  rw [doS_size, rowB_size hn hi]
theorem rowsL_length {s : ByteArray} {w step n : Nat} (hn : s.size = n * w) : ∀ i, i ≤ n → (rowsL s w step i).length = i * (w + 1) := by
  intro i
  induction i with
  | zero => intro _; simp [rowsL]
  | succ i ih =>
    intro h
    simp only [rowsL, List.length_append]
    rw [ih (by omega), chunkL_length hn (by omega), Nat.succ_mul]
theorem rowsL_split (s : ByteArray) (w step i : Nat) : ∀ d, ∃ m, rowsL s w step (i + 1 + d) = rowsL s w step i ++ chunkL s w step i ++ m := by
  intro d
  induction d with
  | zero => exact ⟨[], by simp [rowsL]⟩
  | succ d ih =>
    obtain ⟨m, hm⟩ := ih
    exact ⟨m ++ chunkL s w step (i + 1 + d), by show rowsL s w step (i + 1 + d) ++ _ = _; rw [hm]; simp⟩
/-- the kind of row i of a text of rows with their kinds; the row without it -/
def kdT (t : ByteArray) (w i : Nat) : Nat := (t.data.toList.getD (i * (w + 1)) 0).toNat
def restT (t : ByteArray) (w i : Nat) : ByteArray := t.extract (i * (w + 1) + 1) ((i + 1) * (w + 1))
def unA (t : ByteArray) (w step : Nat) : Nat → ByteArray
  | 0 => ⟨#[]⟩
  | i + 1 => undoS (kdT t w i : Int) (restT t w i) (unA t w step i) step
def unS (t : ByteArray) (w step : Nat) : Nat → ByteArray
  | 0 => ⟨#[]⟩
  | i + 1 => unS t w step i ++ unA t w step (i + 1)
theorem kdT_lt (t : ByteArray) (w i : Nat) : kdT t w i < 256 := UInt8.toNat_lt _
theorem restT_size {t : ByteArray} {w i n : Nat} (hn : t.size = n * (w + 1)) (hi : i < n) : (restT t w i).size = w := by
  unfold restT
  rw [ByteArray.size_extract]
  have h1 : (i + 1) * (w + 1) ≤ n * (w + 1) := Nat.mul_le_mul_right _ (by omega)
  rw [hn, Nat.min_eq_left h1, Nat.succ_mul]; omega
theorem unA_size {t : ByteArray} {w step i n : Nat} (hn : t.size = n * (w + 1)) (hi : i < n) : (unA t w step (i + 1)).size = w := by
  show (undoS _ _ _ _).size = _
  rw [undoS_size, restT_size hn hi]
theorem unA_ok {t : ByteArray} {w step i n : Nat} (hn : t.size = n * (w + 1)) (hi : i < n) : check2 (restT t w i) (unA t w step i) := by
  cases i with
  | zero => exact .inl rfl
  | succ i => exact .inr (by rw [restT_size hn hi]; exact unA_size hn (by omega))
theorem unS_size {t : ByteArray} {w step n : Nat} (hn : t.size = n * (w + 1)) : ∀ i, i ≤ n → (unS t w step i).size = i * w := by
  intro i
  induction i with
  | zero => intro _; rw [Nat.zero_mul]; rfl
  | succ i ih =>
    intro h
    simp only [unS, ByteArray.size_append]
    rw [ih (by omega), unA_size hn (by omega), Nat.succ_mul]
theorem tx_extract (l : List UInt8) (a b : Nat) : (tx l).extract a b = tx ((l.drop a).take (b - a)) := by
  rw [tx_eq, tx_eq, ByteArray.extract_mk]
/-- what was done, undone -/
theorem back_kind {s : ByteArray} {w step n i : Nat} (hn : s.size = n * w) (hi : i < n) (hw : w ≤ 1000000) : kdT (tx (rowsL s w step n)) w i = bestI s w step i := by
  obtain ⟨m, hm⟩ := rowsL_split s w step i (n - (i + 1))
  rw [show i + 1 + (n - (i + 1)) = n by omega] at hm
  unfold kdT
  rw [tx_list, hm, List.append_assoc]
  have hl := rowsL_length (step := step) hn i (by omega)
  have hb : bestI s w step i ≤ 4 := bestS_le _ _ _ (by rw [rowB_size hn hi]; exact hw)
  rw [List.getD, List.getElem?_append_right (by omega), hl, Nat.sub_self]
  show (UInt8.ofNat (bestI s w step i)).toNat = _
  rw [UInt8.toNat_ofNat']; omega
theorem back_rest {s : ByteArray} {w step n i : Nat} (hn : s.size = n * w) (hi : i < n) : restT (tx (rowsL s w step n)) w i = doS (bestI s w step i : Int) (rowB s w i) (ahB s w i) step := by
  obtain ⟨m, hm⟩ := rowsL_split s w step i (n - (i + 1))
  rw [show i + 1 + (n - (i + 1)) = n by omega] at hm
  unfold restT
  have hl := rowsL_length (step := step) hn i (by omega)
  have hd : (doS (bestI s w step i : Int) (rowB s w i) (ahB s w i) step).data.toList.length = w := by
    rw [Array.length_toList]; show (doS _ _ _ _).size = _; rw [doS_size, rowB_size hn hi]
  rw [tx_extract, hm, List.append_assoc, ← tx_of (doS _ _ _ _)]
  congr 1
  rw [show i * (w + 1) + 1 = (rowsL s w step i).length + 1 by omega, List.drop_append, List.drop_of_length_le (by omega), List.nil_append, show (rowsL s w step i).length + 1 - (rowsL s w step i).length = 1 by omega]
  unfold chunkL
  simp only [List.cons_append, List.drop_succ_cons, List.drop_zero]
  rw [hl, show (i + 1) * (w + 1) - (i * (w + 1) + 1) = w by rw [Nat.succ_mul]; omega]
  rw [List.take_append_of_le_length (by omega), List.take_of_length_le (by omega)]
theorem back_un {s : ByteArray} {w step n : Nat} (hn : s.size = n * w) (hw : w ≤ 1000000) (hst : 1 ≤ step) : ∀ i, i ≤ n → unA (tx (rowsL s w step n)) w step i = ahB s w i := by
  intro i
  induction i with
  | zero => intro _; rfl
  | succ i ih =>
    intro h
    show undoS _ _ _ _ = rowB s w i
    rw [back_kind hn (by omega) hw, back_rest hn (by omega), ih (by omega)]
    exact undoS_doS _ _ _ _ hst
theorem back_whole {s : ByteArray} {w step n : Nat} (hn : s.size = n * w) (hw : w ≤ 1000000) (hst : 1 ≤ step) : ∀ i, i ≤ n → unS (tx (rowsL s w step n)) w step i = s.extract 0 (i * w) := by
  intro i
  induction i with
  | zero => intro _; rw [Nat.zero_mul]; apply bytes_ext; simp [unS]
  | succ i ih =>
    intro h
    show unS _ _ _ i ++ unA _ _ _ (i + 1) = _
    rw [ih (by omega), back_un hn hw hst (i + 1) h]
    show s.extract 0 (i * w) ++ s.extract (i * w) ((i + 1) * w) = _
    have h1 : i * w ≤ (i + 1) * w := Nat.mul_le_mul_right w (by omega)
    apply bytes_ext
    rw [bytes_cat]
    simp only [ByteArray.data_extract, Array.toList_extract]
    rw [List.extract_eq_take_drop, List.extract_eq_take_drop, List.extract_eq_take_drop]
    simp only [Nat.sub_zero, List.drop_zero]
    rw [show (i + 1) * w = i * w + ((i + 1) * w - i * w) by omega, List.take_add]
    simp
theorem back_all {s : ByteArray} {w step n : Nat} (hn : s.size = n * w) (hw : w ≤ 1000000) (hst : 1 ≤ step) : unS (tx (rowsL s w step n)) w step n = s := by
  rw [back_whole hn hw hst n (Nat.le_refl _), ← hn]
  simp
end Go.Proofs.YtkddbhngffbljaaDoor
