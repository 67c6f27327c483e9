/- A row done and undone: the plain law, and the contracts of do, Do, Undo. -/
import Derived.Test.YtkddbhngffbljaaDoorFore
import Derived.Test.YtkddbhngffbljaaDoorCodes
import Derived.Test.YtkddbhngffbljaaDoorWriter
import Derived.StillTailTactics
namespace Go.Proofs.YtkddbhngffbljaaDoor
open Go.RowKit
set_option maxRecDepth 100000
def pre (l : List UInt8) (step i : Nat) : Nat := if step ≤ i then (l.getD (i - step) 0).toNat else 0
theorem pre_lt (l : List UInt8) (step i : Nat) : pre l step i < 256 := by unfold pre; split; exact UInt8.toNat_lt _; decide
def doB (k : Int) (row ahead : List UInt8) (step i : Nat) : UInt8 := row.getD i 0 - UInt8.ofNat (fore k (pre row step i) (ahead.getD i 0).toNat (pre ahead step i))
def doL (k : Int) (row ahead : List UInt8) (step : Nat) : List UInt8 := (List.range row.length).map fun i => doB k row ahead step i
def undoL (k : Int) (row ahead : List UInt8) (step : Nat) : Nat → List UInt8
  | 0 => []
  | n + 1 => undoL k row ahead step n ++ [row.getD n 0 + UInt8.ofNat (fore k (pre (undoL k row ahead step n) step n) (ahead.getD n 0).toNat (pre ahead step n))]
theorem undoL_length (k : Int) (row ahead : List UInt8) (step n : Nat) : (undoL k row ahead step n).length = n := by
  induction n with
  | zero => rfl
  | succ n ih => simp [undoL, ih]
theorem doL_length (k : Int) (row ahead : List UInt8) (step : Nat) : (doL k row ahead step).length = row.length := by simp [doL]
theorem doL_getD (k : Int) (row ahead : List UInt8) (step i : Nat) (h : i < row.length) : (doL k row ahead step).getD i 0 = doB k row ahead step i := by simp [doL, List.getD, h]
theorem getD_append_left (l m : List UInt8) (i : Nat) (h : i < l.length) : (l ++ m).getD i 0 = l.getD i 0 := by simp [List.getD, List.getElem?_append_left h]
theorem pre_append (l m : List UInt8) (step i : Nat) (hs : 1 ≤ step) (h : i ≤ l.length) : pre (l ++ m) step i = pre l step i := by
  unfold pre
  split
  · by_cases hl : i - step < l.length
    · rw [getD_append_left l m _ hl]
    · omega
  · rfl
theorem undo_do (k : Int) (row ahead : List UInt8) (step : Nat) (hs : 1 ≤ step) : ∀ n, n ≤ row.length → undoL k (doL k row ahead step) ahead step n = row.take n := by
  intro n
  induction n with
  | zero => intro _; rfl
  | succ n ih =>
    intro h
    have h1 := ih (by omega)
    show undoL k (doL k row ahead step) ahead step n ++ [_] = _
    rw [h1, doL_getD k row ahead step n (by omega)]
    have h2 : pre row step n = pre (row.take n) step n := by
      have := pre_append (row.take n) (row.drop n) step n hs (by rw [List.length_take]; omega)
      rwa [List.take_append_drop] at this
    unfold doB
    rw [h2, UInt8.sub_add_cancel, List.take_succ_eq_append_getElem (by omega)]
    simp [List.getD, show n < row.length by omega]
theorem undoL_prefix (k : Int) (row ahead : List UInt8) (step : Nat) : ∀ d i, ∃ m, undoL k row ahead step (i + d) = undoL k row ahead step i ++ m := by
  intro d
  induction d with
  | zero => intro i; exact ⟨[], by simp⟩
  | succ d ih =>
    intro i
    obtain ⟨m, hm⟩ := ih i
    have e : undoL k row ahead step (i + d + 1) = undoL k row ahead step (i + d) ++ [row.getD (i + d) 0 + UInt8.ofNat (fore k (pre (undoL k row ahead step (i + d)) step (i + d)) (ahead.getD (i + d) 0).toNat (pre ahead step (i + d)))] := rfl
    rw [show i + (d + 1) = i + d + 1 by omega, e, hm, List.append_assoc]
    exact ⟨_, rfl⟩
theorem do_undo (k : Int) (row ahead : List UInt8) (step : Nat) (hs : 1 ≤ step) : doL k (undoL k row ahead step row.length) ahead step = row := by
  apply List.ext_getElem
  · rw [doL_length, undoL_length]
  · intro i h1 h2
    have e : (doL k (undoL k row ahead step row.length) ahead step)[i] = doB k (undoL k row ahead step row.length) ahead step i := by simp [doL]
    rw [e]
    obtain ⟨m, hm⟩ := undoL_prefix k row ahead step (row.length - (i + 1)) (i + 1)
    rw [show i + 1 + (row.length - (i + 1)) = row.length by omega] at hm
    have e2 : undoL k row ahead step (i + 1) = undoL k row ahead step i ++ [row.getD i 0 + UInt8.ofNat (fore k (pre (undoL k row ahead step i) step i) (ahead.getD i 0).toNat (pre ahead step i))] := rfl
    unfold doB
    rw [hm]
    have hl : (undoL k row ahead step i).length = i := undoL_length k row ahead step i
    rw [getD_append_left _ m i (by rw [undoL_length]; omega)]
    rw [pre_append _ m step i hs (by rw [undoL_length]; omega), e2, pre_append _ _ step i hs (by omega)]
    have e3 : ∀ x : UInt8, (undoL k row ahead step i ++ [x]).getD i 0 = x := by
      intro x; simp [List.getD, hl]
    rw [e3, UInt8.add_sub_cancel]
    simp [List.getD, h2]
theorem sub_spell (x : UInt8) (f : Nat) : ((x.toNat : Int) - f) % 256 = ((x - UInt8.ofNat f).toNat : Int) := by
  rw [UInt8.toNat_sub, UInt8.toNat_ofNat']
  have := x.toNat_lt
  omega
theorem add_spell (x : UInt8) (f : Nat) : ((x.toNat : Int) + f) % 256 = ((x + UInt8.ofNat f).toNat : Int) := by
  rw [UInt8.toNat_add, UInt8.toNat_ofNat']
  have := x.toNat_lt
  omega
theorem at_pre (s : ByteArray) (step i : Nat) (w : World) (h1 : step ≤ 8) (h2 : i ≤ 1099511627776) :
    Calls Tryd.prog 68 #[.string s, .int .i64 ((i : Int) - step)] w fun e w' => e = .returned (.int .u8 (pre s.data.toList step i : Int)) ∧ w = w' := by
  refine (at_calls s _ w (by omega) (by omega)).mono ?_
  rintro e w' ⟨rfl, rfl⟩
  refine ⟨ret_int ?_, rfl⟩
  unfold pre
  by_cases h : step ≤ i
  · rw [if_pos (by omega), if_pos h, show ((i : Int) - step).toNat = i - step by omega]
  · rw [if_neg (by omega), if_neg h]; rfl
theorem at_here (s : ByteArray) (i : Nat) (w : World) (h2 : i ≤ 1099511627776) :
    Calls Tryd.prog 68 #[.string s, .int .i64 (i : Int)] w fun e w' => e = .returned (.int .u8 ((s.data.toList.getD i 0).toNat : Int)) ∧ w = w' := by
  refine (at_calls s _ w (by omega) (by omega)).mono ?_
  rintro e w' ⟨rfl, rfl⟩
  exact ⟨ret_int (by rw [if_pos (by omega)]; rfl), rfl⟩
theorem row_at (s : ByteArray) (i : Nat) (h : i < s.size) : s[i] = s.data.toList.getD i 0 := by
  have h' : i < s.data.toList.length := by simpa using h
  rw [List.getD, List.getElem?_eq_getElem h']; simp; rfl
theorem byteinfo : (Tryd.prog.info? 5).map (fun i => (i.zero, i.size, i.bytes)) = some (some (.int .u8 0), 1, 1) := by kernel_rfl
theorem do_calls (k : Int) (row ahead : ByteArray) (step : Nat) (w : World) (h1 : -9223372036854775808 ≤ k) (h2 : k ≤ 9223372036854775807) (h3 : step ≤ 8) (hr : row.size ≤ 1099511627776) :
    Calls Tryd.prog 66 #[.int .i64 k, .string row, .string ahead, .int .i64 (step : Int)] w fun e w' => ∃ B, w.heap.size ≤ B ∧ e = .returned (.slice (some ⟨B, 0, none⟩) row.size row.size) ∧ Cs w' B row.size .u8 (fun i => ((doB k row.data.toList ahead.data.toList step i).toNat : Int)) ∧ Ext w w' := by
  have hmk := run_make_row' (P := Tryd.prog) 25 5 (.int .u8 0) 1 Tryd.underlying25 byteinfo rfl .i64 .i64 row.size (by omega) (by omega)
  go_enter Tryd.func66, Tryd.ntmps66
  go_wp2_with fail
  rw [made_eq]
  clear hmk
  have H1 := Lib.hid (Cs.born w .u8 row.size (fun _ => 0) 5)
  have H2 := Lib.hid ((Ext.refl w).alloc (.cells (cellsI .u8 row.size fun _ => 0) 5))
  generalize (w.alloc (.cells (cellsI .u8 row.size fun _ => 0) 5)) = w2 at *
  go_loopw [10, 16] (fun _ v wr => ∃ i : Nat, i ≤ row.size ∧ v = .int .i64 i ∧ Hid (Cs wr w.heap.size row.size .u8 (fun j => if j < i then ((doB k row.data.toList ahead.data.toList step j).toNat : Int) else 0)) ∧ Hid (Ext w wr)) (fun _ v _ => row.size - (intOf v).toNat)
  case atStart => exact ⟨0, by omega, rfl, Lib.hid (H1.out.congr fun j hj => by rw [if_neg (by omega)]), H2⟩
  case round =>
    obtain ⟨i, hi, rfl, HC, HE⟩ := hrel
    by_cases hlt : i < row.size
    · obtain ⟨c1, c2⟩ := HC.out i hlt
      have A1 := fun w => at_pre row step i w h3 (by omega)
      have A2 := fun w => at_here ahead i w (by omega)
      have A3 := fun w => at_pre ahead step i w h3 (by omega)
      have A4 := fun w => foretell_calls k (pre row.data.toList step i) (ahead.data.toList.getD i 0).toNat (pre ahead.data.toList step i) w h1 h2 (pre_lt _ _ _) (UInt8.toNat_lt _) (pre_lt _ _ _)
      have l4 := fore_lt k (pre row.data.toList step i) (ahead.data.toList.getD i 0).toNat (pre ahead.data.toList step i) (pre_lt _ _ _) (UInt8.toNat_lt _) (pre_lt _ _ _)
      have hv : doB k row.data.toList ahead.data.toList step i = row.data.toList.getD i 0 - UInt8.ofNat (fore k (pre row.data.toList step i) (ahead.data.toList.getD i 0).toNat (pre ahead.data.toList step i)) := rfl
      rw [← row_at row i hlt] at hv
      generalize fore k (pre row.data.toList step i) (ahead.data.toList.getD i 0).toNat (pre ahead.data.toList step i) = r at *
      generalize pre row.data.toList step i = a at *
      generalize (ahead.data.toList.getD i 0).toNat = b at *
      generalize pre ahead.data.toList step i = c at *
      obtain ⟨d, hd⟩ : ∃ d : Int, (i : Int) - (step : Int) = d := ⟨_, rfl⟩
      rw [hd] at A1 A3
      have d1 : -10 ≤ d ∧ d ≤ 1099511627776 := by omega
      obtain ⟨d1, d2⟩ := d1
      have hwd : IntKind.i64.wrap d = d := by rw [IntKind.wrap_i64]; omega
      have HA1 := Lib.hid fun w => still_of (A1 w)
      have HA2 := Lib.hid fun w => still_of (A2 w)
      have HA3 := Lib.hid fun w => still_of (A3 w)
      have HA4 := Lib.hid fun w => still_of (A4 w)
      have HV := Lib.hid hv
      simp only [Nat.lt_irrefl, if_false] at c1
      clear A1 A2 A3 A4 hv
      go_wp2_with fail
      refine wp_region_still_tail 22 (by kernel_rfl) (by kernel_rfl) ?_
      simp only [List.take_succ_cons, List.take_zero, List.drop_succ_cons, List.drop_zero]
      repeat still_step
      still_call (HA1.out _)
      repeat still_step
      still_call (HA2.out _)
      repeat still_step
      still_call (HA3.out _)
      repeat still_step
      still_call (HA4.out _)
      repeat still_step
      refine wpStill_nil ?_
      change wpList _ _ _ _ _ wr.drew
      go_wp2_with fail
      rw [sub_spell, ← HV.out]
      refine ⟨⟨i + 1, by omega, by go_num, Lib.hid ?_, Lib.hid ?_⟩, by simp [intOf]; omega⟩
      · refine (HC.out.put i _ _ hlt ?_).drew
        intro j hj
        by_cases e : j = i
        · subst e; simp
        · rw [if_neg e]
          by_cases e2 : j < i
          · rw [if_pos e2, if_pos (by omega)]
          · rw [if_neg e2, if_neg (by omega)]
      · exact (HE.out.setCell (Nat.le_refl _) _).drew
    · obtain rfl : i = row.size := by omega
      go_wp2_with fail
      go_ret
      exact ⟨w.heap.size, Nat.le_refl _, rfl, HC.out.congr fun j hj => by rw [if_pos hj], HE.out⟩
def doS (k : Int) (row ahead : ByteArray) (step : Nat) : ByteArray := ⟨(doL k row.data.toList ahead.data.toList step).toArray⟩
def undoS (k : Int) (row ahead : ByteArray) (step : Nat) : ByteArray := ⟨(undoL k row.data.toList ahead.data.toList step row.size).toArray⟩
theorem doS_size (k : Int) (row ahead : ByteArray) (step : Nat) : (doS k row ahead step).size = row.size := by
  show (doL k row.data.toList ahead.data.toList step).toArray.size = _
  rw [List.size_toArray, doL_length, Array.length_toList]; rfl
theorem undoS_size (k : Int) (row ahead : ByteArray) (step : Nat) : (undoS k row ahead step).size = row.size := by
  show (undoL k row.data.toList ahead.data.toList step row.size).toArray.size = _
  rw [List.size_toArray, undoL_length]
theorem undoS_doS (k : Int) (row ahead : ByteArray) (step : Nat) (hs : 1 ≤ step) : undoS k (doS k row ahead step) ahead step = row := by
  have h := undo_do k row.data.toList ahead.data.toList step hs row.size (by rw [Array.length_toList]; exact Nat.le_refl _)
  unfold undoS
  rw [doS_size]
  show (⟨(undoL k (doL k row.data.toList ahead.data.toList step) ahead.data.toList step row.size).toArray⟩ : ByteArray) = row
  rw [h, List.take_of_length_le (by rw [Array.length_toList]; exact Nat.le_refl _)]
theorem doS_undoS (k : Int) (row ahead : ByteArray) (step : Nat) (hs : 1 ≤ step) : doS k (undoS k row ahead step) ahead step = row := by
  have h := do_undo k row.data.toList ahead.data.toList step hs
  rw [Array.length_toList] at h
  show (⟨(doL k (undoL k row.data.toList ahead.data.toList step row.size) ahead.data.toList step).toArray⟩ : ByteArray) = row
  rw [show row.size = row.data.size from rfl, h]
theorem bigDo_calls (k : Int) (row ahead : ByteArray) (step : Nat) (w : World) (h1 : -9223372036854775808 ≤ k) (h2 : k ≤ 9223372036854775807) (hr : row.size ≤ 1099511627776) (hc : check k (step : Int)) (hc2 : check2 row ahead)
    (EB ES : Value) (hB : w.cell? ⟨1, 0, none⟩ = some EB) (hS : w.cell? ⟨2, 0, none⟩ = some ES) :
    Calls Tryd.prog 45 #[.int .i64 k, .string row, .string ahead, .int .i64 (step : Int)] w fun e w' => e = .returned (.tuple #[.string (doS k row ahead step), .nilIface]) ∧ Ext w w' := by
  have HC := Lib.hid hc
  have HC2 := Lib.hid hc2
  have hst := hc.2.2.2
  clear hc hc2
  go_enter Tryd.func45, Tryd.ntmps45
  go_wp2_with fail
  refine (check_calls k row ahead step w h1 h2 (by omega) (by omega) _ _ hB hS).mono ?_
  rintro e w1 ⟨h | h | h, rfl⟩
  · obtain ⟨rfl, _⟩ := h
    go_wp2_with fail
    refine (do_calls k row ahead step _ h1 h2 (by omega) hr).mono ?_
    rintro e w2 ⟨B, hB2, rfl, hCs, hE⟩
    have hcr : (convert 25 9 (.slice (some ⟨B, 0, none⟩) row.size row.size)).run Tryd.prog w2 = .ok (.string (doS k row ahead step)) w2 := by
      have hl : (doL k row.data.toList ahead.data.toList step).length = row.size := by rw [doL_length, Array.length_toList]; rfl
      have q := run_convert_bytes_back (P := Tryd.prog) w2 25 9 5 ⟨B, 0, none⟩ row.size (doL k row.data.toList ahead.data.toList step) Tryd.underlying25 Tryd.underlying5 Tryd.underlying9 (fun j hj => by
        rw [add_plain, (hCs j (by omega)).1]; simp [doL])
      rwa [hl] at q
    have HE := Lib.hid hE
    clear hCs hE
    go_wp2_with fail
    exact bodyPost_ret (v := .tuple #[.string (doS k row ahead step), .nilIface]) (by simp [results, Tryd.results45, go_sem, *]) rfl ⟨rfl, HE.out⟩
  · exact absurd HC.out h.2
  · exact absurd HC2.out h.2.2
end Go.Proofs.YtkddbhngffbljaaDoor
