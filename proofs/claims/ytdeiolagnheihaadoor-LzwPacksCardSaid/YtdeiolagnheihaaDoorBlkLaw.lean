/- A text in blocks, and back: the plain law; rows of bytes that grow. No function of the program is named. -/
import Derived.Test.YtdeiolagnheihaaDoorBox
import Derived.Test.YtdeiolagnheihaaDoorWriter
import Derived.Lib.AppendStr
namespace Go.Proofs.YtdeiolagnheihaaDoor
open Go.RowKit
set_option maxRecDepth 100000
@[irreducible] def tb (l : List UInt8) : ByteArray := ⟨l.toArray⟩
theorem tb_eq (l : List UInt8) : tb l = ⟨l.toArray⟩ := by unfold tb; rfl
theorem tb_list (l : List UInt8) : (tb l).data.toList = l := by unfold tb; rfl
theorem tb_size (l : List UInt8) : (tb l).size = l.length := by rw [tb_eq]; rfl
theorem bts_ext {a b : ByteArray} (h : a.data.toList = b.data.toList) : a = b := by
  obtain ⟨⟨a⟩⟩ := a; obtain ⟨⟨b⟩⟩ := b; simp at h; rw [h]
theorem bts_cat (a b : ByteArray) : (a ++ b).data.toList = a.data.toList ++ b.data.toList := by simp
theorem tb_nil : (⟨#[]⟩ : ByteArray) = tb [] := bts_ext (by rw [tb_list])
theorem list_size (s : ByteArray) : s.data.toList.length = s.size := by rw [Array.length_toList]; rfl
theorem ex_list (s : ByteArray) (a b : Nat) : (s.extract a b).data.toList = (s.data.toList.drop a).take (b - a) := by
  rw [ByteArray.data_extract, Array.toList_extract, List.extract_eq_take_drop]
/-- the blocks -/
def chB (s : ByteArray) (i : Nat) : ByteArray := s.extract (i * 255) ((i + 1) * 255)
def blkL (s : ByteArray) : Nat → List UInt8
  | 0 => []
  | i + 1 => blkL s i ++ (UInt8.ofNat (chB s i).size :: (chB s i).data.toList)
def nch (s : ByteArray) : Nat := (s.size + 254) / 255
theorem nch_iff (s : ByteArray) (i : Nat) : i < nch s ↔ i * 255 < s.size := by unfold nch; omega
theorem nch_eq {s : ByteArray} {i : Nat} (h1 : s.size ≤ i * 255) (h2 : i ≤ nch s) : i = nch s := by unfold nch at *; omega
theorem chB_size (s : ByteArray) (i : Nat) : (chB s i).size = min 255 (s.size - i * 255) := by
  unfold chB; rw [ByteArray.size_extract]; omega
theorem blkL_length (s : ByteArray) : ∀ i, (blkL s i).length ≤ i * 256 := by
  intro i
  induction i with
  | zero => simp [blkL]
  | succ i ih =>
    simp only [blkL, List.length_append, List.length_cons, list_size]
    have := chB_size s i
    omega
def outL (s : ByteArray) : List UInt8 := blkL s (nch s) ++ [0]
/-- what blocks mean: a text, and how many bytes were used -/
def jn (t : List UInt8) : Nat → Nat → List UInt8 → Option (List UInt8 × Nat)
  | 0, _, _ => none
  | f + 1, a, out => if a < t.length then
      (if (t.getD a 0).toNat = 0 then some (out, a + 1)
       else if t.length < a + 1 + (t.getD a 0).toNat then none
       else jn t f (a + 1 + (t.getD a 0).toNat) (out ++ (t.drop (a + 1)).take (t.getD a 0).toNat))
    else none
def joined (t : List UInt8) : Option (List UInt8 × Nat) := jn t (t.length + 1) 0 []
theorem jn_end {t : List UInt8} {f a : Nat} {out : List UInt8} (h : t.length ≤ a) : jn t f a out = none := by
  cases f with
  | zero => rfl
  | succ f => simp only [jn]; rw [if_neg (by omega)]
theorem jn_zero {t : List UInt8} {f a : Nat} {out : List UInt8} (h : a < t.length) (hf : t.length < f + a) (h0 : (t.getD a 0).toNat = 0) : jn t f a out = some (out, a + 1) := by
  cases f with
  | zero => omega
  | succ f => simp only [jn]; rw [if_pos h, if_pos h0]
theorem jn_over {t : List UInt8} {f a n : Nat} {out : List UInt8} (h : a < t.length) (hn : (t.getD a 0).toNat = n) (h0 : n ≠ 0) (h1 : t.length < a + 1 + n) : jn t f a out = none := by
  cases f with
  | zero => rfl
  | succ f => simp only [jn]; rw [if_pos h, hn, if_neg h0, if_pos h1]
theorem jn_next {t : List UInt8} {f a n : Nat} {out : List UInt8} (h : a < t.length) (hf : t.length < f + a) (hn : (t.getD a 0).toNat = n) (h0 : n ≠ 0) (h1 : a + 1 + n ≤ t.length) :
    ∃ f', jn t f a out = jn t f' (a + 1 + n) (out ++ (t.drop (a + 1)).take n) ∧ t.length < f' + (a + 1 + n) := by
  cases f with
  | zero => omega
  | succ f => exact ⟨f, by simp only [jn]; rw [if_pos h, hn, if_neg h0, if_neg (by omega)], by omega⟩
theorem blk_take (s : ByteArray) (i : Nat) : s.data.toList.take ((i + 1) * 255) = s.data.toList.take (i * 255) ++ (chB s i).data.toList := by
  unfold chB
  rw [ex_list, show (i + 1) * 255 = i * 255 + ((i + 1) * 255 - i * 255) by omega, List.take_add]
  congr 2
  omega
theorem blkL_split (s : ByteArray) (i : Nat) : ∀ d, ∃ m, blkL s (i + 1 + d) = blkL s i ++ (UInt8.ofNat (chB s i).size :: (chB s i).data.toList) ++ m := by
  intro d
  induction d with
  | zero => exact ⟨[], by simp [blkL]⟩
  | succ d ih =>
    obtain ⟨m, hm⟩ := ih
    exact ⟨m ++ (UInt8.ofNat (chB s (i + 1 + d)).size :: (chB s (i + 1 + d)).data.toList), by show blkL s (i + 1 + d) ++ _ = _; rw [hm]; simp⟩
theorem join_at (s : ByteArray) (m : List UInt8) : ∀ i, i ≤ nch s → ∃ f, joined (outL s ++ m) = jn (outL s ++ m) f (blkL s i).length (s.data.toList.take (i * 255)) ∧ (outL s ++ m).length < f + (blkL s i).length := by
  intro i
  induction i with
  | zero => intro _; exact ⟨(outL s ++ m).length + 1, by simp [joined, blkL], by simp [blkL]⟩
  | succ i ih =>
    intro hi
    obtain ⟨f, h1, h2⟩ := ih (by omega)
    obtain ⟨r, hr⟩ := blkL_split s i (nch s - (i + 1))
    rw [show i + 1 + (nch s - (i + 1)) = nch s by omega] at hr
    have hc := chB_size s i
    have hlt := (nch_iff s i).1 (by omega)
    have e : outL s ++ m = blkL s i ++ (UInt8.ofNat (chB s i).size :: ((chB s i).data.toList ++ (r ++ [0] ++ m))) := by unfold outL; rw [hr]; simp
    have hg : ((outL s ++ m).getD (blkL s i).length 0).toNat = (chB s i).size := by
      rw [e, List.getD, List.getElem?_append_right (Nat.le_refl _), Nat.sub_self]
      show (UInt8.ofNat _).toNat = _
      rw [UInt8.toNat_ofNat']; omega
    have hl : (outL s ++ m).length = (blkL s i).length + 1 + (chB s i).size + (r ++ [0] ++ m).length := by rw [e]; simp only [List.length_append, List.length_cons, list_size]; omega
    obtain ⟨f', q1, q2⟩ := jn_next (t := outL s ++ m) (f := f) (a := (blkL s i).length) (n := (chB s i).size) (out := s.data.toList.take (i * 255)) (by omega) h2 hg (by omega) (by omega)
    have hd : ((outL s ++ m).drop ((blkL s i).length + 1)).take (chB s i).size = (chB s i).data.toList := by
      rw [e, List.drop_append, List.drop_of_length_le (by omega), List.nil_append, show (blkL s i).length + 1 - (blkL s i).length = 1 by omega]
      show ((chB s i).data.toList ++ _).take _ = _
      rw [List.take_append_of_le_length (by rw [list_size]; exact Nat.le_refl _), List.take_of_length_le (by rw [list_size]; exact Nat.le_refl _)]
    have hb : (blkL s (i + 1)).length = (blkL s i).length + 1 + (chB s i).size := by simp only [blkL, List.length_append, List.length_cons, list_size]; omega
    refine ⟨f', ?_, by rw [hb]; exact q2⟩
    rw [h1, q1, hd, hb, ← blk_take]
theorem join_blocks (s : ByteArray) (m : List UInt8) : joined (outL s ++ m) = some (s.data.toList, (outL s).length) := by
  obtain ⟨f, h1, h2⟩ := join_at s m (nch s) (Nat.le_refl _)
  have hl : (outL s).length = (blkL s (nch s)).length + 1 := by simp [outL]
  have hg : ((outL s ++ m).getD (blkL s (nch s)).length 0).toNat = 0 := by
    unfold outL
    rw [List.append_assoc, List.getD, List.getElem?_append_right (Nat.le_refl _), Nat.sub_self]
    rfl
  have ht : s.data.toList.take (nch s * 255) = s.data.toList := List.take_of_length_le (by rw [list_size]; unfold nch; omega)
  rw [h1, jn_zero (by rw [List.length_append, hl]; omega) h2 hg, ht, hl]
/-- rows of bytes that grow -/
theorem strCells_eq (s : ByteArray) : Lib.strCells s = bytesV s.data.toList := rfl
theorem grow_str {w w3 w4 : World} {u v : Value} {L : Nat} {U : List UInt8} {s : ByteArray} (hE : Ext w w3) (hR : w3.ownsRow w.heap.size 5 1 u L (bytesV U)) (hg : w3.grownBy w4 u.ownBlock)
    (ho : w4.ownsRow w.heap.size 5 1 v (L + s.size) (bytesV U ++ Lib.strCells s)) : w4.ownsRow w.heap.size 5 1 v (L + s.size) (bytesV (U ++ s.data.toList)) ∧ Ext w w4 := by
  refine ⟨?_, Below.trans hE ((Keeps.grown hg).below hE.size (fun k hk e => by have := (hR.lt k e).1; omega))⟩
  have e : bytesV (U ++ s.data.toList) = bytesV U ++ Lib.strCells s := by rw [strCells_eq]; simp [bytesV]
  rw [e]; exact ho
theorem grow_one {w w3 w4 : World} {u v : Value} {L : Nat} {U : List UInt8} {y : UInt8} (hE : Ext w w3) (hR : w3.ownsRow w.heap.size 5 1 u L (bytesV U)) (hg : w3.grownBy w4 u.ownBlock)
    (ho : w4.ownsRow w.heap.size 5 1 v (L + 1) (bytesV U ++ [.int .u8 (y.toNat : Int)])) : w4.ownsRow w.heap.size 5 1 v (L + 1) (bytesV (U ++ [y])) ∧ Ext w w4 := by
  refine ⟨?_, Below.trans hE ((Keeps.grown hg).below hE.size (fun k hk e => by have := (hR.lt k e).1; omega))⟩
  have e : bytesV (U ++ [y]) = bytesV U ++ [.int .u8 (y.toNat : Int)] := by simp [bytesV]
  rw [e]; exact ho
theorem lit_row {w : World} {base : Nat} {e : TypeId} {size : Nat} {v : Value} {n : Nat} {xs : List Value} (h : w.ownsRow base e size v n xs) : ∃ x c, v = .slice x n c := by
  rcases ownsRow_slice h with ⟨h1, h2⟩ | ⟨g, cap, h1⟩
  · exact ⟨none, 0, by rw [h1, h2]⟩
  · exact ⟨_, cap, h1⟩
theorem conv_row {w : World} {base L : Nat} {v : Value} {l : List UInt8} (hl : l.length = L) (h : w.ownsRow base 5 1 v L (bytesV l)) : (convert 23 9 v).run Tryd.prog w = .ok (.string (tb l)) w := by
  rw [tb_eq]
  subst hl
  rcases ownsRow_slice h with ⟨rfl, h0⟩ | ⟨g, cap, rfl⟩
  · rw [run_convert_bytes_string w 23 9 5 none 0 0 Tryd.underlying23 Tryd.underlying5 Tryd.underlying9, List.eq_nil_of_length_eq_zero h0]; rfl
  · refine run_convert_bytes_back (P := Tryd.prog) w 23 9 5 ⟨g, 0, none⟩ cap l Tryd.underlying23 Tryd.underlying5 Tryd.underlying9 (fun j hj => ?_)
    rw [add_plain, h.cellAt j (by omega), bytesV_get _ j hj]
theorem u8inf : (Tryd.prog.info? 5).map (fun i => (i.zero, i.size, i.bytes)) = some (some (.int .u8 0), 1, 1) := by kernel_rfl
theorem one8 (b : Int) : ∀ u ∈ [Value.int .u8 b], u.oneCell' = true := by intro u hu; rw [List.mem_singleton.1 hu]; rfl
theorem emp_iff (s : ByteArray) : s.toList.isEmpty = decide (s.size = 0) := by
  rw [ByteArray.toList_eq, ← list_size]
  cases s.data.toList <;> rfl
theorem emp_no (s : ByteArray) (h : s.size ≠ 0) : s.toList.isEmpty = false := by rw [emp_iff]; exact decide_eq_false h
theorem emp_yes (s : ByteArray) (h : s.size = 0) : s.toList.isEmpty = true := by rw [emp_iff]; exact decide_eq_true h
end Go.Proofs.YtdeiolagnheihaaDoor
