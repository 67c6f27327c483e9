/- HuffFalls's walk. -/
import Derived.Test.YtkddbhngffbljaaDoorNext
import Derived.Test.YtkddbhngffbljaaDoorCoded1
import Derived.Test.YtkddbhngffbljaaDoorErrsTo
namespace Go.Proofs.YtkddbhngffbljaaDoor
open Go.RowKit
set_option maxRecDepth 100000
def oneF (a : Nat) : Nat → Int := fun i => if i = a then 1 else 0
theorem oneF_at (a n : Nat) : oneF a n = if n = a then 1 else 0 := rfl
theorem oneF_many1 (a : Nat) : ∀ n, many (oneF a) 1 n = if a < n then 1 else 0 := by
  intro n
  induction n with
  | zero => rfl
  | succ n ih =>
    show many (oneF a) 1 n + (if oneF a n = ((1 : Nat) : Int) then 1 else 0) = _
    rw [ih, oneF_at]
    by_cases h : n = a
    · subst h; simp
    · have : a < n ↔ a < n + 1 := by omega
      simp [h, this]
theorem oneF_many0 (a : Nat) : ∀ n, many (oneF a) 0 n + (if a < n then 1 else 0) = n := by
  intro n
  induction n with
  | zero => rfl
  | succ n ih =>
    show many (oneF a) 0 n + (if oneF a n = ((0 : Nat) : Int) then 1 else 0) + _ = _
    rw [oneF_at]
    by_cases h : n = a
    · subst h
      rw [if_neg (Nat.lt_irrefl _)] at ih
      rw [if_pos (show n = n from rfl), if_pos (Nat.lt_succ_self _), if_neg (show ¬ (1 : Int) = ((0 : Nat) : Int) by decide)]; omega
    · rw [if_neg h, if_pos (show (0 : Int) = ((0 : Nat) : Int) from rfl)]
      by_cases h2 : a < n
      · rw [if_pos h2] at ih; rw [if_pos (show a < n + 1 by omega)]; omega
      · rw [if_neg h2] at ih; rw [if_neg (show ¬ a < n + 1 by omega)]; omega
theorem oneF_in (a len : Nat) (h : len ≤ 300) : inBounds (oneF a) len := ⟨h, fun j _ => by unfold oneF; split <;> omega⟩
theorem oneF_ok (a len : Nat) : complete (oneF a) len := by
  have h0 := oneF_many0 a len
  have h1 := oneF_many1 a len
  by_cases h : a < len
  · rw [if_pos h] at h0 h1; exact .inr (.inl ⟨by omega, h1⟩)
  · rw [if_neg h] at h0; exact .inl (by omega)
/-- what comes next out of a code of one word or of none -/
theorem falls_next {w' : World} {e : Ending} {B o a len : Nat} {s : ByteArray} {E : Nat → Addr} (h : NextIs w' e B o s 0 (oneF a) len E) (hs : s.size = 1) :
    (a < len ∧ Crc.num s.data.toList % 2 = 0 ∧ e = .returned (.tuple #[.int .i64 (a : Int), .nilIface]) ∧ RAt w' B o s 1) ∨ (¬ (a < len ∧ Crc.num s.data.toList % 2 = 0) ∧ e = .returned (.tuple #[.int .i64 0, sentV (E 0)])) := by
  rcases h with ⟨n, k, h1, _, _, _, hk, hf, hw, he, hR⟩ | ⟨hN, he, _⟩
  · have hk2 : k = a := by
      unfold oneF at hf
      by_cases q : k = a
      · exact q
      · rw [if_neg q] at hf; omega
    subst hk2
    have hn : n = 1 := by unfold oneF at hf; rw [if_pos rfl] at hf; omega
    subst hn
    have hw0 : word (oneF k) len k = 0 := by
      unfold word
      rw [hf]
      have := oneF_many1 k k
      rw [if_neg (Nat.lt_irrefl _)] at this
      simpa [first] using this
    rw [hw0] at hw
    simp only [codeAt, Nat.pow_zero, Nat.div_one, Nat.add_zero, Nat.mul_zero, Nat.zero_add] at hw
    exact .inl ⟨hk, hw.symm, he, hR⟩
  · refine .inr ⟨?_, he⟩
    rintro ⟨q1, q2⟩
    have := hN 1 (by omega) (by omega) 1 (by omega) (by omega)
    rw [oneF_many1, if_pos q1] at this
    simp only [codeAt, Nat.pow_zero, Nat.div_one, Nat.add_zero, Nat.mul_zero, Nat.zero_add, first] at this
    omega
theorem falls_out (m a : Int) (w : World) (E : Nat → Addr) (hS : Errs w E) (h : m < 1 ∨ 300 < m) :
    Calls Tryd.prog 10 #[.int .i64 m, .int .i64 a] w fun e w' => e = .returned (.bool true) ∧ Ext w w' := by
  rcases h with h | h
  all_goals
    go_enter Tryd.func10, Tryd.ntmps10
    go_wp2_with fail
    refine (two_any _ (errs_sents hS)).mono ?_
    rintro e w2 ⟨rfl, h2⟩
    have X2 := Lib.hid (h2)
    clear h2
    go_wp2_with fail
    go_ret
    exact ⟨rfl, X2.out⟩
theorem ints_born (w : World) (m : Nat) (f : Nat → Int) (hf : ∀ i, -9223372036854775808 ≤ f i ∧ f i ≤ 9223372036854775807) : Ints (w.alloc (.cells (cellsI .i64 m f) 3)) (some ⟨w.heap.size, 0, none⟩) m f := by
  refine ⟨(fun h => by cases h), fun a ha i hi => ?_⟩
  injection ha with ha; subst ha
  rw [add_plain, World.cell?_alloc_at _ _ _ _ rfl]
  exact ⟨cellsI_get .i64 m f i hi, hf i⟩
theorem cellsI_ext (k : IntKind) (n : Nat) (f g : Nat → Int) (h : ∀ i, i < n → f i = g i) : cellsI k n f = cellsI k n g := by
  apply Array.ext
  · rw [cellsI_size, cellsI_size]
  · intro i h1 h2
    rw [cellsI_getElem, cellsI_getElem, h i (by rw [cellsI_size] at h1; exact h1)]
theorem oneF_bd (a i : Nat) : -9223372036854775808 ≤ oneF a i ∧ oneF a i ≤ 9223372036854775807 := by rw [oneF_at]; split <;> omega
theorem falls_one (m : Nat) (a : Nat) (w : World) (E : Nat → Addr) (hS : Errs w E) (h1 : 1 ≤ m) (h2 : m ≤ 300) (hlt : a < m) :
    Calls Tryd.prog 10 #[.int .i64 (m : Int), .int .i64 (a : Int)] w fun e w' => e = .returned (.bool true) ∧ Ext w w' := by
  have HS := Lib.hid hS
  clear hS
  have HMK := Lib.hid (run_make_row' (P := Tryd.prog) 45 3 (.int .i64 0) 8 Tryd.underlying45 i64info rfl .i64 .i64 m (by omega) (by omega))
  go_enter Tryd.func10, Tryd.ntmps10
  go_wp2_with fail
  refine (two_any _ (errs_sents HS.out)).mono ?_
  rintro e w2 ⟨rfl, h2'⟩
  have X2 := Lib.hid (h2')
  clear h2'
  have hmk := HMK.out
  have t1 : decide ((0 : Int) ≤ (a : Int)) = true := decide_eq_true (by omega)
  have t2 : decide (a < m) = true := decide_eq_true (by omega)
  have hmc : (madeCells #[Value.int .i64 0] m)[a]? = some (.int .i64 0) := by rw [made_eq]; exact cellsI_get .i64 m _ a (by omega)
  go_wp2_with fail
  clear hmc t1 t2 hmk
  rw [made_eq, cellsI_set .i64 m (fun _ => 0) a 1 (oneF a) (fun i _ => rfl)]
  have hI : Ints (w2.alloc (.cells (cellsI .i64 m (oneF a)) 3)) (some ⟨w2.heap.size, 0, none⟩) m (oneF a) := ints_born w2 m (oneF a) (oneF_bd a)
  have X3 := Lib.hid (X2.out.alloc (.cells (cellsI .i64 m (oneF a)) 3))
  have HI := Lib.hid hI
  clear hI
  refine (read_good _ m m (oneF a) _ E (HS.out.ext X3.out) HI.out (oneF_in a m h2) (oneF_ok a m)).mono ?_
  rintro e w4 ⟨⟨T, v, hT, hV, rfl, hTA⟩, h4⟩
  have X4 := Lib.hid (X3.out.trans h4)
  have TA4 := Lib.hid (hTA)
  clear h4 hTA hV hT
  go_wp2_with fail
  refine (newReader_calls _ _ (by decide)).mono ?_
  rintro e w5 ⟨rfl, hR, h5⟩
  have X5 := Lib.hid (X4.out.trans h5)
  have R5 := Lib.hid (hR)
  have TA5 := Lib.hid (TA4.out.kept (S := fun _ => False) h5.keeps id (fun _ _ => id))
  have TL := Lib.hid (World.block_lt_of_cell? w4 _ TA4.out.cell)
  have VL := Lib.hid ((show v.ownBlock ≠ some w4.heap.size from fun q => Nat.lt_irrefl _ (ownsRow_lt TA4.out.row q)))
  clear h5 hR
  clear TA4
  go_wp2_with fail
  refine (next_any T w4.heap.size 0 0 v (oneF a) m _ w w5 E HS.out X5.out X4.out.size h2 TA5.out R5.out (Nat.zero_le _) (Nat.ne_of_lt TL.out) VL.out).mono ?_
  rintro e w6 ⟨hN, h6⟩
  have FN := Lib.hid (falls_next hN (by rfl))
  have X6 := Lib.hid (h6.after X5.out X4.out.size)
  have TA6 := Lib.hid (TA5.out.kept (S := fun k => k = w4.heap.size) h6.keeps (Nat.ne_of_lt TL.out) (fun k hk e => VL.out (by rw [hk, e])))
  clear h6 hN
  rcases FN.out with ⟨_, hb, _⟩ | ⟨_, rfl⟩
  · exact absurd hb (by decide)
  clear FN
  go_wp2_with fail
  refine (coded_any _ E (HS.out.ext X6.out) _ _ _ 1 (.sent 0 (by decide))).mono ?_
  rintro e w7 ⟨he, h7⟩
  have X7 := Lib.hid (X6.out.trans h7)
  obtain rfl : e = .returned (.bool true) := by rw [he]; exact ret_bool (by simp)
  clear he
  go_wp2_with fail
  refine (newReader_calls _ _ (by decide)).mono ?_
  rintro e w8 ⟨rfl, hR, h8⟩
  have X8 := Lib.hid (X7.out.trans h8)
  have R8 := Lib.hid (hR)
  have TA8 := Lib.hid (TA6.out.kept (S := fun _ => False) (Ext.trans h7 h8).keeps id (fun _ _ => id))
  have TL8 := Lib.hid (World.block_lt_of_cell? w7 _ (h7.cell (p := ⟨T, 16, none⟩) (World.block_lt_of_cell? w6 _ TA6.out.cell) |>.trans TA6.out.cell))
  have VL8 := Lib.hid ((show v.ownBlock ≠ some w7.heap.size from fun q => by have := ownsRow_lt TA6.out.row q; have := h7.size; omega))
  clear h8 hR
  clear h7
  go_wp2_with fail
  refine (next_any T w7.heap.size 0 0 v (oneF a) m _ w w8 E HS.out X8.out X7.out.size h2 TA8.out R8.out (Nat.zero_le _) (Nat.ne_of_lt TL8.out) VL8.out).mono ?_
  rintro e w9 ⟨hN, h9⟩
  have FN := Lib.hid (falls_next hN (by rfl))
  have X9 := Lib.hid (h9.after X8.out X7.out.size)
  clear h9 hN
  rcases FN.out with ⟨_, _, rfl, hR9⟩ | ⟨hb, _⟩
  rotate_left
  · exact absurd ⟨by omega, by decide⟩ hb
  have R9 := Lib.hid hR9
  have t1 : decide ((0 : Int) ≤ (a : Int)) = true := decide_eq_true (by omega)
  have t2 : decide (a < m) = true := decide_eq_true (by omega)
  clear FN hR9
  go_wp2_with fail
  refine (at_calls _ _ _ _ _ R9.out).mono ?_
  rintro e w10 ⟨rfl, rfl⟩
  go_wp2_with fail
  go_ret
  exact ⟨rfl, X9.out⟩
theorem falls_low (m : Nat) (x : Int) (a : Nat) (w : World) (E : Nat → Addr) (hS : Errs w E) (h1 : 1 ≤ m) (h2 : m ≤ 300) (hx : x < 0) (ha : m ≤ a) :
    Calls Tryd.prog 10 #[.int .i64 (m : Int), .int .i64 x] w fun e w' => e = .returned (.bool true) ∧ Ext w w' := by
  have HS := Lib.hid hS
  clear hS
  have HMK := Lib.hid (run_make_row' (P := Tryd.prog) 45 3 (.int .i64 0) 8 Tryd.underlying45 i64info rfl .i64 .i64 m (by omega) (by omega))
  go_enter Tryd.func10, Tryd.ntmps10
  go_wp2_with fail
  refine (two_any _ (errs_sents HS.out)).mono ?_
  rintro e w2 ⟨rfl, h2'⟩
  have X2 := Lib.hid (h2')
  clear h2'
  have hmk := HMK.out
  have t1 : decide ((0 : Int) ≤ x) = false := decide_eq_false (by omega)
  go_wp2_with fail
  clear hmk
  rw [made_eq, cellsI_ext .i64 m (fun _ => 0) (oneF a) (fun i hi => by rw [oneF_at, if_neg (by omega)])]
  have hI : Ints (w2.alloc (.cells (cellsI .i64 m (oneF a)) 3)) (some ⟨w2.heap.size, 0, none⟩) m (oneF a) := ints_born w2 m (oneF a) (oneF_bd a)
  have X3 := Lib.hid (X2.out.alloc (.cells (cellsI .i64 m (oneF a)) 3))
  have HI := Lib.hid hI
  clear hI
  refine (read_good _ m m (oneF a) _ E (HS.out.ext X3.out) HI.out (oneF_in a m h2) (oneF_ok a m)).mono ?_
  rintro e w4 ⟨⟨T, v, hT, hV, rfl, hTA⟩, h4⟩
  have X4 := Lib.hid (X3.out.trans h4)
  have TA4 := Lib.hid (hTA)
  clear h4 hTA hV hT
  go_wp2_with fail
  refine (newReader_calls _ _ (by decide)).mono ?_
  rintro e w5 ⟨rfl, hR, h5⟩
  have X5 := Lib.hid (X4.out.trans h5)
  have R5 := Lib.hid (hR)
  have TA5 := Lib.hid (TA4.out.kept (S := fun _ => False) h5.keeps id (fun _ _ => id))
  have TL := Lib.hid (World.block_lt_of_cell? w4 _ TA4.out.cell)
  have VL := Lib.hid ((show v.ownBlock ≠ some w4.heap.size from fun q => Nat.lt_irrefl _ (ownsRow_lt TA4.out.row q)))
  clear h5 hR
  clear TA4
  go_wp2_with fail
  refine (next_any T w4.heap.size 0 0 v (oneF a) m _ w w5 E HS.out X5.out X4.out.size h2 TA5.out R5.out (Nat.zero_le _) (Nat.ne_of_lt TL.out) VL.out).mono ?_
  rintro e w6 ⟨hN, h6⟩
  have FN := Lib.hid (falls_next hN (by rfl))
  have X6 := Lib.hid (h6.after X5.out X4.out.size)
  have TA6 := Lib.hid (TA5.out.kept (S := fun k => k = w4.heap.size) h6.keeps (Nat.ne_of_lt TL.out) (fun k hk e => VL.out (by rw [hk, e])))
  clear h6 hN
  rcases FN.out with ⟨_, hb, _⟩ | ⟨_, rfl⟩
  · exact absurd hb (by decide)
  clear FN
  go_wp2_with fail
  refine (coded_any _ E (HS.out.ext X6.out) _ _ _ 1 (.sent 0 (by decide))).mono ?_
  rintro e w7 ⟨he, h7⟩
  have X7 := Lib.hid (X6.out.trans h7)
  obtain rfl : e = .returned (.bool true) := by rw [he]; exact ret_bool (by simp)
  clear he
  go_wp2_with fail
  refine (newReader_calls _ _ (by decide)).mono ?_
  rintro e w8 ⟨rfl, hR, h8⟩
  have X8 := Lib.hid (X7.out.trans h8)
  have R8 := Lib.hid (hR)
  have TA8 := Lib.hid (TA6.out.kept (S := fun _ => False) (Ext.trans h7 h8).keeps id (fun _ _ => id))
  have TL8 := Lib.hid (World.block_lt_of_cell? w7 _ (h7.cell (p := ⟨T, 16, none⟩) (World.block_lt_of_cell? w6 _ TA6.out.cell) |>.trans TA6.out.cell))
  have VL8 := Lib.hid ((show v.ownBlock ≠ some w7.heap.size from fun q => by have := ownsRow_lt TA6.out.row q; have := h7.size; omega))
  clear h8 hR
  clear h7
  go_wp2_with fail
  refine (next_any T w7.heap.size 0 0 v (oneF a) m _ w w8 E HS.out X8.out X7.out.size h2 TA8.out R8.out (Nat.zero_le _) (Nat.ne_of_lt TL8.out) VL8.out).mono ?_
  rintro e w9 ⟨hN, h9⟩
  have FN := Lib.hid (falls_next hN (by rfl))
  have X9 := Lib.hid (h9.after X8.out X7.out.size)
  clear h9 hN
  rcases FN.out with ⟨hb, _⟩ | ⟨_, rfl⟩
  · omega
  clear FN
  go_wp2_with fail
  refine (coded_any _ E (HS.out.ext X9.out) _ _ _ 1 (.sent 0 (by decide))).mono ?_
  rintro e w10 ⟨he, h10⟩
  have X10 := Lib.hid (X9.out.trans h10)
  clear h10
  obtain rfl : e = .returned (.bool true) := by rw [he]; exact ret_bool (by simp)
  clear he
  go_wp2_with fail
  go_ret
  exact ⟨rfl, X10.out⟩
theorem falls_high (m : Nat) (x : Int) (a : Nat) (w : World) (E : Nat → Addr) (hS : Errs w E) (h1 : 1 ≤ m) (h2 : m ≤ 300) (hx : (m : Int) ≤ x) (ha : m ≤ a) :
    Calls Tryd.prog 10 #[.int .i64 (m : Int), .int .i64 x] w fun e w' => e = .returned (.bool true) ∧ Ext w w' := by
  have HS := Lib.hid hS
  clear hS
  have HMK := Lib.hid (run_make_row' (P := Tryd.prog) 45 3 (.int .i64 0) 8 Tryd.underlying45 i64info rfl .i64 .i64 m (by omega) (by omega))
  go_enter Tryd.func10, Tryd.ntmps10
  go_wp2_with fail
  refine (two_any _ (errs_sents HS.out)).mono ?_
  rintro e w2 ⟨rfl, h2'⟩
  have X2 := Lib.hid (h2')
  clear h2'
  have hmk := HMK.out
  have t1 : decide ((0 : Int) ≤ x) = true := decide_eq_true (by omega)
  have t2 : decide (x < (m : Int)) = false := decide_eq_false (by omega)
  go_wp2_with fail
  clear hmk
  rw [made_eq, cellsI_ext .i64 m (fun _ => 0) (oneF a) (fun i hi => by rw [oneF_at, if_neg (by omega)])]
  have hI : Ints (w2.alloc (.cells (cellsI .i64 m (oneF a)) 3)) (some ⟨w2.heap.size, 0, none⟩) m (oneF a) := ints_born w2 m (oneF a) (oneF_bd a)
  have X3 := Lib.hid (X2.out.alloc (.cells (cellsI .i64 m (oneF a)) 3))
  have HI := Lib.hid hI
  clear hI
  refine (read_good _ m m (oneF a) _ E (HS.out.ext X3.out) HI.out (oneF_in a m h2) (oneF_ok a m)).mono ?_
  rintro e w4 ⟨⟨T, v, hT, hV, rfl, hTA⟩, h4⟩
  have X4 := Lib.hid (X3.out.trans h4)
  have TA4 := Lib.hid (hTA)
  clear h4 hTA hV hT
  go_wp2_with fail
  refine (newReader_calls _ _ (by decide)).mono ?_
  rintro e w5 ⟨rfl, hR, h5⟩
  have X5 := Lib.hid (X4.out.trans h5)
  have R5 := Lib.hid (hR)
  have TA5 := Lib.hid (TA4.out.kept (S := fun _ => False) h5.keeps id (fun _ _ => id))
  have TL := Lib.hid (World.block_lt_of_cell? w4 _ TA4.out.cell)
  have VL := Lib.hid ((show v.ownBlock ≠ some w4.heap.size from fun q => Nat.lt_irrefl _ (ownsRow_lt TA4.out.row q)))
  clear h5 hR
  clear TA4
  go_wp2_with fail
  refine (next_any T w4.heap.size 0 0 v (oneF a) m _ w w5 E HS.out X5.out X4.out.size h2 TA5.out R5.out (Nat.zero_le _) (Nat.ne_of_lt TL.out) VL.out).mono ?_
  rintro e w6 ⟨hN, h6⟩
  have FN := Lib.hid (falls_next hN (by rfl))
  have X6 := Lib.hid (h6.after X5.out X4.out.size)
  have TA6 := Lib.hid (TA5.out.kept (S := fun k => k = w4.heap.size) h6.keeps (Nat.ne_of_lt TL.out) (fun k hk e => VL.out (by rw [hk, e])))
  clear h6 hN
  rcases FN.out with ⟨_, hb, _⟩ | ⟨_, rfl⟩
  · exact absurd hb (by decide)
  clear FN
  go_wp2_with fail
  refine (coded_any _ E (HS.out.ext X6.out) _ _ _ 1 (.sent 0 (by decide))).mono ?_
  rintro e w7 ⟨he, h7⟩
  have X7 := Lib.hid (X6.out.trans h7)
  obtain rfl : e = .returned (.bool true) := by rw [he]; exact ret_bool (by simp)
  clear he
  go_wp2_with fail
  refine (newReader_calls _ _ (by decide)).mono ?_
  rintro e w8 ⟨rfl, hR, h8⟩
  have X8 := Lib.hid (X7.out.trans h8)
  have R8 := Lib.hid (hR)
  have TA8 := Lib.hid (TA6.out.kept (S := fun _ => False) (Ext.trans h7 h8).keeps id (fun _ _ => id))
  have TL8 := Lib.hid (World.block_lt_of_cell? w7 _ (h7.cell (p := ⟨T, 16, none⟩) (World.block_lt_of_cell? w6 _ TA6.out.cell) |>.trans TA6.out.cell))
  have VL8 := Lib.hid ((show v.ownBlock ≠ some w7.heap.size from fun q => by have := ownsRow_lt TA6.out.row q; have := h7.size; omega))
  clear h8 hR
  clear h7
  go_wp2_with fail
  refine (next_any T w7.heap.size 0 0 v (oneF a) m _ w w8 E HS.out X8.out X7.out.size h2 TA8.out R8.out (Nat.zero_le _) (Nat.ne_of_lt TL8.out) VL8.out).mono ?_
  rintro e w9 ⟨hN, h9⟩
  have FN := Lib.hid (falls_next hN (by rfl))
  have X9 := Lib.hid (h9.after X8.out X7.out.size)
  clear h9 hN
  rcases FN.out with ⟨hb, _⟩ | ⟨_, rfl⟩
  · omega
  clear FN
  go_wp2_with fail
  refine (coded_any _ E (HS.out.ext X9.out) _ _ _ 1 (.sent 0 (by decide))).mono ?_
  rintro e w10 ⟨he, h10⟩
  have X10 := Lib.hid (X9.out.trans h10)
  clear h10
  obtain rfl : e = .returned (.bool true) := by rw [he]; exact ret_bool (by simp)
  clear he
  go_wp2_with fail
  go_ret
  exact ⟨rfl, X10.out⟩
theorem falls_any (m x : Int) (w : World) (E : Nat → Addr) (hS : Errs w E) (hm : -9223372036854775808 ≤ m ∧ m ≤ 9223372036854775807) (hx : -9223372036854775808 ≤ x ∧ x ≤ 9223372036854775807) :
    Calls Tryd.prog 10 #[.int .i64 m, .int .i64 x] w fun e w' => e = .returned (.bool true) ∧ Ext w w' := by
  by_cases h : m < 1 ∨ 300 < m
  · exact falls_out m x w E hS h
  · obtain ⟨n, rfl⟩ : ∃ n : Nat, m = n := ⟨m.toNat, by omega⟩
    by_cases h0 : x < 0
    · exact falls_low n x n w E hS (by omega) (by omega) h0 (Nat.le_refl _)
    · obtain ⟨a, rfl⟩ : ∃ a : Nat, x = a := ⟨x.toNat, by omega⟩
      by_cases h1 : a < n
      · exact falls_one n a w E hS (by omega) (by omega) h1
      · exact falls_high n a a w E hS (by omega) (by omega) (by omega) (by omega)
end Go.Proofs.YtkddbhngffbljaaDoor
