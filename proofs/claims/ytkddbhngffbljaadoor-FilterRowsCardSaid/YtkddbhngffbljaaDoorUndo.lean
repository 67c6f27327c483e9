/- Undo of a row, and rows that neither is done nor undone. -/
import Derived.Test.YtkddbhngffbljaaDoorFilt
import Derived.Deep.AppendLies
import Derived.Deep.RegionHeld3
namespace Go.Proofs.YtkddbhngffbljaaDoor
open Go.RowKit
set_option maxRecDepth 100000
theorem badDo_calls (k : Int) (row ahead : ByteArray) (step : Int) (w : World) (h1 : -9223372036854775808 ≤ k) (h2 : k ≤ 9223372036854775807) (h3 : -9223372036854775808 ≤ step) (h4 : step ≤ 9223372036854775807) (hc : ¬ (check k step ∧ check2 row ahead))
    (EB ES : Addr) (hB : w.cell? ⟨1, 0, none⟩ = some (.iface 101 (.pointer (some EB)))) (hS : w.cell? ⟨2, 0, none⟩ = some (.iface 101 (.pointer (some ES)))) :
    Calls Tryd.prog 45 #[.int .i64 k, .string row, .string ahead, .int .i64 step] w fun e w' => ∃ E, (E = EB ∧ ¬ check k step ∨ E = ES ∧ check k step) ∧ e = .returned (.tuple #[.string ⟨#[]⟩, .iface 101 (.pointer (some E))]) ∧ w = w' := by
  have HC := Lib.hid hc
  clear hc
  go_enter Tryd.func45, Tryd.ntmps45
  go_wp2_with fail
  refine (check_calls k row ahead step w h1 h2 h3 h4 _ _ hB hS).mono ?_
  rintro e w1 ⟨h | h | h, rfl⟩
  · exact absurd h.2 HC.out
  · obtain ⟨rfl, hb⟩ := h
    have HB := Lib.hid hb
    clear hb
    go_wp2_with fail
    exact bodyPost_ret (v := .tuple #[.string ⟨#[]⟩, .iface 101 (.pointer (some EB))]) (by simp [results, Tryd.results45, go_sem, *]) rfl ⟨EB, .inl ⟨rfl, HB.out⟩, rfl, rfl⟩
  · obtain ⟨rfl, hb, _⟩ := h
    have HB := Lib.hid hb
    clear hb
    go_wp2_with fail
    exact bodyPost_ret (v := .tuple #[.string ⟨#[]⟩, .iface 101 (.pointer (some ES))]) (by simp [results, Tryd.results45, go_sem, *]) rfl ⟨ES, .inr ⟨rfl, HB.out⟩, rfl, rfl⟩
theorem badUndo_calls (k : Int) (row ahead : ByteArray) (step : Int) (w : World) (h1 : -9223372036854775808 ≤ k) (h2 : k ≤ 9223372036854775807) (h3 : -9223372036854775808 ≤ step) (h4 : step ≤ 9223372036854775807) (hc : ¬ (check k step ∧ check2 row ahead))
    (EB ES : Addr) (hB : w.cell? ⟨1, 0, none⟩ = some (.iface 101 (.pointer (some EB)))) (hS : w.cell? ⟨2, 0, none⟩ = some (.iface 101 (.pointer (some ES)))) :
    Calls Tryd.prog 46 #[.int .i64 k, .string row, .string ahead, .int .i64 step] w fun e w' => ∃ E, (E = EB ∧ ¬ check k step ∨ E = ES ∧ check k step) ∧ e = .returned (.tuple #[.string ⟨#[]⟩, .iface 101 (.pointer (some E))]) ∧ w = w' := by
  have HC := Lib.hid hc
  clear hc
  go_enter Tryd.func46, Tryd.ntmps46
  go_wp2_with fail
  refine (check_calls k row ahead step w h1 h2 h3 h4 _ _ hB hS).mono ?_
  rintro e w1 ⟨h | h | h, rfl⟩
  · exact absurd h.2 HC.out
  · obtain ⟨rfl, hb⟩ := h
    have HB := Lib.hid hb
    clear hb
    go_wp2_with fail
    exact bodyPost_ret (v := .tuple #[.string ⟨#[]⟩, .iface 101 (.pointer (some EB))]) (by simp [results, Tryd.results46, go_sem, *]) rfl ⟨EB, .inl ⟨rfl, HB.out⟩, rfl, rfl⟩
  · obtain ⟨rfl, hb, _⟩ := h
    have HB := Lib.hid hb
    clear hb
    go_wp2_with fail
    exact bodyPost_ret (v := .tuple #[.string ⟨#[]⟩, .iface 101 (.pointer (some ES))]) (by simp [results, Tryd.results46, go_sem, *]) rfl ⟨ES, .inr ⟨rfl, HB.out⟩, rfl, rfl⟩
theorem undo_snoc (k : Int) (row ahead : List UInt8) (step i : Nat) : undoL k row ahead step (i + 1) = undoL k row ahead step i ++ [row.getD i 0 + UInt8.ofNat (fore k (pre (undoL k row ahead step i) step i) (ahead.getD i 0).toNat (pre ahead step i))] := rfl
theorem undo_mem (w wr w' : World) (u v : Value) (i : Nat) (U : List UInt8) (x : Value) (y : UInt8) (hx : x = .int .u8 (y.toNat : Int)) (t : TypeId) (o : Obj) (HE : Ext w wr) (HR : wr.ownsRow w.heap.size t 1 u i (bytesV U))
    (hg : (wr.drew.alloc o).grownBy w' u.ownBlock) (hown : w'.ownsRow w.heap.size t 1 v (i + 1) (bytesV U ++ [x])) : w'.ownsRow w.heap.size t 1 v (i + 1) (bytesV (U ++ [y])) ∧ Ext w w' := by
  refine ⟨?_, ?_⟩
  · rw [hx] at hown
    simpa [bytesV] using hown
  · have K : Keeps (fun k => u.ownBlock = some k) wr w' := ((Keeps.refl _ wr).drew.alloc o).trans (Keeps.grown hg) (fun _ _ q => q)
    exact Below.trans HE (K.below HE.size fun k hk q => by have := (HR.lt k q).1; omega)
set_option maxHeartbeats 4000000 in
theorem bigUndo_calls (k : Int) (row ahead : ByteArray) (step : Nat) (w : World) (h1 : -9223372036854775808 ≤ k) (h2 : k ≤ 9223372036854775807) (hr : row.size ≤ 1099511627776) (hc : check k (step : Int)) (hc2 : check2 row ahead)
    (EB ES : Value) (hB : w.cell? ⟨1, 0, none⟩ = some EB) (hS : w.cell? ⟨2, 0, none⟩ = some ES) :
    Calls Tryd.prog 46 #[.int .i64 k, .string row, .string ahead, .int .i64 (step : Int)] w fun e w' => e = .returned (.tuple #[.string (undoS k row ahead step), .nilIface]) ∧ Ext w w' := by
  have HC := Lib.hid hc
  have HC2 := Lib.hid hc2
  have hst := hc.2.2.2
  have hst1 := hc.2.2.1
  obtain ⟨i0, hi0, hz0, hz1, hz2⟩ := info_parts byteinfo
  obtain ⟨w2, hmk, hown, hgrow⟩ := run_make_own (P := Tryd.prog) w w.heap.size 25 5 i0 (.int .u8 0) 1 Tryd.underlying25 hi0 hz0 hz1 .i64 .i64 row.size (by rw [hz2]; omega) (by unfold maxLen; omega) (Nat.le_refl _)
  have HO := Lib.hid hown
  have HG : Hid (Ext w w2) := (Keeps.grown hgrow).below (Nat.le_refl _) (fun k _ q => by cases q)
  clear hc hc2 hown hgrow
  go_enter Tryd.func46, Tryd.ntmps46
  go_wp2_with fail
  refine (check_calls k row ahead step w h1 h2 (by omega) (by omega) _ _ hB hS).mono ?_
  rintro e w1 ⟨h | h | h, rfl⟩
  · obtain ⟨rfl, _⟩ := h
    go_wp2_with fail
    clear hmk
    go_loopw [11, 12, 13, 27] (fun u _ _ v wr => ∃ i : Nat, i ≤ row.size ∧ v = .int .i64 i ∧ Hid (wr.ownsRow w.heap.size 5 1 u i (bytesV (undoL k row.data.toList ahead.data.toList step i))) ∧ Hid (Ext w wr)) (fun _ _ _ v _ => row.size - (intOf v).toNat)
    case atStart => exact ⟨0, by omega, rfl, HO, HG⟩
    case round =>
      obtain ⟨i, hi, rfl, HR, HE⟩ := hrel
      by_cases hlt : i < row.size
      · have A2 := fun w => at_here ahead i w (by omega)
        have A3 := fun w => at_pre ahead step i w (by omega) (by omega)
        have A4 := fun w => foretell_calls k (pre (undoL k row.data.toList ahead.data.toList step i) step i) (ahead.data.toList.getD i 0).toNat (pre ahead.data.toList step i) w h1 h2 (pre_lt _ _ _) (UInt8.toNat_lt _) (pre_lt _ _ _)
        have hv := undo_snoc k row.data.toList ahead.data.toList step i
        rw [← row_at row i hlt] at hv
        obtain ⟨U, hU⟩ : ∃ U, undoL k row.data.toList ahead.data.toList step i = U := ⟨_, rfl⟩
        rw [hU] at hv A4 HR
        have hUl : U.length = i := by rw [← hU]; exact undoL_length _ _ _ _ _
        have ha : ∃ a, pre U step i = a ∧ a < 256 := ⟨_, rfl, pre_lt _ _ _⟩
        obtain ⟨a, ha, la⟩ := ha
        rw [ha] at hv A4
        generalize fore k a (ahead.data.toList.getD i 0).toNat (pre ahead.data.toList step i) = r at *
        generalize (ahead.data.toList.getD i 0).toNat = b at *
        generalize pre ahead.data.toList step i = c at *
        obtain ⟨d, hd⟩ : ∃ d : Int, (i : Int) - (step : Int) = d := ⟨_, rfl⟩
        rw [hd] at A3
        have hwd : IntKind.i64.wrap d = d := by rw [IntKind.wrap_i64]; omega
        have d1 : -10 ≤ d ∧ d ≤ 1099511627776 := by omega
        obtain ⟨d1, d2⟩ := d1
        have HA2 := Lib.hid A2
        have HA3 := Lib.hid A3
        have HA4 := Lib.hid A4
        have HV := Lib.hid hv
        have HUU := Lib.hid hU
        have HUL := Lib.hid hUl
        clear A2 A3 A4 hv hU hUl
        have tail : ∀ (u : Value), Hid (wr.ownsRow w.heap.size 5 1 u i (bytesV U)) → True := fun _ _ => trivial
        by_cases hs : step ≤ i
        · have haU : (U.getD (i - step) 0).toNat = a := by rw [← ha]; unfold pre; rw [if_pos hs]
          have HAU := Lib.hid haU
          have HA := Lib.hid ha
          clear haU ha tail
          obtain ⟨g0, cap0, hu, _, _⟩ := ownsRow_some HR.out (by omega)
          obtain ⟨j, hj⟩ : ∃ j : Nat, d = (j : Int) := ⟨i - step, by omega⟩
          subst hj
          rw [hu] at HR ⊢
          clear hu u11
          have hji : j < i := by omega
          have hc : wr.cell? ⟨g0, j, none⟩ = some (.int .u8 (a : Int)) := by
            have hjl : j < U.length := by rw [HUL.out]; exact hji
            rw [HR.out.cellAt j (by omega), bytesV_get U j hjl, ← HAU.out, show i - step = j by omega]
            simp [List.getD, hjl]
          have t1 : decide ((step : Int) ≤ (i : Int)) = true := decide_eq_true (by omega)
          go_wp2_with fail
          have HRd : Hid (wr.drew.ownsRow w.heap.size 5 1 (.slice (some ⟨g0, 0, none⟩) i cap0) i (bytesV U)) := HR.out
          have hsz : w.heap.size ≤ wr.heap.size + 1 := by have := HE.out.size; omega
          go_region_held3 (fun _ => True) (trivial)
            (first
              | (go_at_call_of 68 j; refine (HA3.out _).mono ?_; rintro e w' ⟨rfl, rfl⟩)
              | (go_at_call 68; refine (HA2.out _).mono ?_; rintro e w' ⟨rfl, rfl⟩)
              | (go_at_call 67; refine (HA4.out _).mono ?_; rintro e w' ⟨rfl, rfl⟩)
              | (refine step_append_lies _ rfl (.tmp 39) (.tmp 55) 25 rfl w.heap.size 5 i0 (.int .u8 0) 1 1 Tryd.underlying25 hi0 hz0 hz1 hz2 rfl (by decide) (.slice (some ⟨g0, 0, none⟩) i cap0) i (bytesV U) (by simp [Act.eval]) (HRd.out.alloc _) ⟨wr.heap.size, 0, none⟩ 1 1 [_] (by simp [Act.eval]) rfl (cell_one_new _ _ _) (by intro u hu; simp at hu; subst hu; rfl) (by omega) (by unfold maxLen; omega) (by omega) (by simp; exact hsz) _ rfl ?_; intro g cap w' hown' hgrow hat hlt'))
          all_goals
            obtain ⟨q1, q2⟩ := undo_mem w wr w' _ _ i U _ (row[i] + UInt8.ofNat r) (val_int (add_spell _ _)) _ _ HE.out HR.out hgrow hown'
            have Q1 := Lib.hid q1
            have Q2 := Lib.hid q2
            clear hown' hgrow hat hlt' q1 q2
            go_wp2_with fail
            exact ⟨⟨i + 1, by omega, by go_num, by rw [HV.out]; exact Q1, Q2⟩, by simp [intOf]; omega⟩
        · have ha0 : a = 0 := by rw [← ha]; unfold pre; rw [if_neg hs]
          subst ha0
          have HA := Lib.hid ha
          clear ha tail
          have t1 : decide ((step : Int) ≤ (i : Int)) = false := decide_eq_false (by omega)
          go_wp2_with fail
          have HRd : Hid (wr.drew.ownsRow w.heap.size 5 1 u11 i (bytesV U)) := HR.out
          have hsz : w.heap.size ≤ wr.heap.size + 1 := by have := HE.out.size; omega
          go_region_held3 (fun _ => True) (trivial)
            (first
              | (go_at_call_of 68 d; refine (HA3.out _).mono ?_; rintro e w' ⟨rfl, rfl⟩)
              | (go_at_call 68; refine (HA2.out _).mono ?_; rintro e w' ⟨rfl, rfl⟩)
              | (go_at_call 67; refine (HA4.out _).mono ?_; rintro e w' ⟨rfl, rfl⟩)
              | (refine step_append_lies _ rfl (.tmp 39) (.tmp 55) 25 rfl w.heap.size 5 i0 (.int .u8 0) 1 1 Tryd.underlying25 hi0 hz0 hz1 hz2 rfl (by decide) u11 i (bytesV U) (by simp [Act.eval]) (HRd.out.alloc _) ⟨wr.heap.size, 0, none⟩ 1 1 [_] (by simp [Act.eval]) rfl (cell_one_new _ _ _) (by intro u hu; simp at hu; subst hu; rfl) (by omega) (by unfold maxLen; omega) (by omega) (by simp; exact hsz) _ rfl ?_; intro g cap w' hown' hgrow hat hlt'))
          all_goals
            obtain ⟨q1, q2⟩ := undo_mem w wr w' _ _ i U _ (row[i] + UInt8.ofNat r) (val_int (add_spell _ _)) _ _ HE.out HR.out hgrow hown'
            have Q1 := Lib.hid q1
            have Q2 := Lib.hid q2
            clear hown' hgrow hat hlt' q1 q2
            go_wp2_with fail
            exact ⟨⟨i + 1, by omega, by go_num, by rw [HV.out]; exact Q1, Q2⟩, by simp [intOf]; omega⟩
      · obtain rfl : i = row.size := by omega
        have hcr : (convert 25 9 u11).run Tryd.prog wr = .ok (.string (undoS k row ahead step)) wr := by
          have hl : (undoL k row.data.toList ahead.data.toList step row.size).length = row.size := undoL_length _ _ _ _ _
          rcases ownsRow_slice HR.out with ⟨hv, h0⟩ | ⟨g, cap, hv⟩
          · rw [hv, run_convert_bytes_string wr 25 9 5 none 0 0 Tryd.underlying25 Tryd.underlying5 Tryd.underlying9]
            unfold undoS; rw [h0]; rfl
          · rw [hv]
            have hR := HR.out
            rw [hv] at hR
            have q := run_convert_bytes_back (P := Tryd.prog) wr 25 9 5 ⟨g, 0, none⟩ cap (undoL k row.data.toList ahead.data.toList step row.size) Tryd.underlying25 Tryd.underlying5 Tryd.underlying9 (fun j hj => by
              rw [add_plain, hR.cellAt j (by omega), bytesV_get _ j hj])
            rwa [hl] at q
        go_wp2_with fail
        exact bodyPost_ret (v := .tuple #[.string (undoS k row ahead step), .nilIface]) (by simp [results, Tryd.results46, go_sem, *]) rfl ⟨rfl, HE.out⟩
  · exact absurd HC.out h.2
  · exact absurd HC2.out h.2.2
end Go.Proofs.YtkddbhngffbljaaDoor
