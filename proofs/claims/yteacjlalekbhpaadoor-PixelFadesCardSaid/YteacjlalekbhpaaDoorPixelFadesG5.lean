/-
  The document's PixelOf.
  pixel.Read: no digits of 16 but in small letters; their number.
  strconv.ParseUint at eight digits of 16, and pixel.Read.
  pixel.Read.
  coded: an error's number, without a place.
  PixelFades: the walk of the statement.
  PixelFades: the statement is walked.
-/
import Derived.Test.YteacjlalekbhpaaDoorPixelFadesG4
import Derived.Test.YteacjlalekbhpaaDoorPixelFadesG3
import Derived.Deep.OwnRows
import Derived.Deep.RegionHeld3
import Derived.RegionTactic
import Derived.Lib.ConvBytes
import Derived.Laws.Closers25
import Derived.Laws.Closers25b
import Derived.BigCall
import Derived.BigGuard
import Derived.Test.YteacjlalekbhpaaDoorPixelFadesG2
import Derived.Deep.DeepCutAuto
import Derived.Deep.CutBlock
namespace Go.Proofs.YteacjlalekbhpaaDoor
open Go.RowKit
set_option linter.unusedSimpArgs false
set_option maxRecDepth 100000
def pixG (s : ByteArray) (k j : Nat) : Value := .int .u8 (if j < k then pixB s j else 0)
theorem pu8info : (Tryd.prog.info? 5).map (fun i => (i.zero, i.size, i.bytes)) = some (some (.int .u8 0), 1, 1) := by kernel_rfl
theorem pixG_set (s : ByteArray) (k : Nat) (hk : k < 4) : (#[pixG s k 0, pixG s k 1, pixG s k 2, pixG s k 3] : Array Value).setIfInBounds k (.int .u8 (pixB s k)) = #[pixG s (k + 1) 0, pixG s (k + 1) 1, pixG s (k + 1) 2, pixG s (k + 1) 3] := by
  match k, hk with
  | 0, _ => simp [pixG]
  | 1, _ => simp [pixG]
  | 2, _ => simp [pixG]
  | 3, _ => simp [pixG]
theorem pixG_at (s : ByteArray) (k : Nat) (hk : k < 4) : (#[pixG s k 0, pixG s k 1, pixG s k 2, pixG s k 3] : Array Value)[k]? = some (.int .u8 0) := by
  match k, hk with
  | 0, _ => simp [pixG]
  | 1, _ => simp [pixG]
  | 2, _ => simp [pixG]
  | 3, _ => simp [pixG]
theorem made4 : madeCells #[Value.int .u8 0] 4 = #[Value.int .u8 0, .int .u8 0, .int .u8 0, .int .u8 0] := by
  unfold madeCells
  rw [show Array.range 4 = #[0, 1, 2, 3] by decide]
  simp
set_option linter.unusedSimpArgs false in
set_option maxHeartbeats 4000000 in
theorem pixOf_any (s : ByteArray) (w : World) :
    Calls Tryd.prog 31 #[.string s] w fun e w' => e = .returned (pixOfV s) ∧ Ext w w' := by
  by_cases h8 : s.size = 8
  · have t8 : ((s.size : Int) != 8) = false := by rw [h8]; rfl
    have hmk : ∀ w, (Instr.makeSlice 66 (.int .i64 4) (.int .i64 4)).run Tryd.prog w = .ok (.slice (some ⟨w.heap.size, 0, none⟩) 4 4) (w.alloc (.cells #[.int .u8 0, .int .u8 0, .int .u8 0, .int .u8 0] 5))   := fun w => by
      rw [← made4]
      exact run_make_row' (P := Tryd.prog) 66 5 (.int .u8 0) 1 Tryd.underlying66 pu8info rfl .i64 .i64 4 (by decide) (by decide) w
    obtain ⟨B, hB⟩ : ∃ B, w.heap.size = B := ⟨_, rfl⟩
    go_enter Tryd.func31, Tryd.ntmps31
    go_wp2_with fail
    refine wp_world (fun wz => Ext w wz ∧ wz.heap.size = B + 1 + 1 ∧ Bk wz B #[.int .u8 0, .int .u8 0, .int .u8 0, .int .u8 0] ∧ Bk wz (B + 1) #[pixG s 0 0, pixG s 0 1, pixG s 0 2, pixG s 0 3]) ⟨((Ext.refl w).alloc _).alloc _, by simp [hB], (Bk.at hB).old, Bk.at (by simp [hB])⟩ ?_
    rintro w2 ⟨hX, hZ, hB0, hB1⟩
    have HX := Lib.hid hX
    have HZ := Lib.hid (And.intro hZ hB)
    have HB0 := Lib.hid hB0
    have HB1 := Lib.hid hB1
    clear hX hZ hB0 hB1 hmk hB
    go_loopw [5] (fun c wr => ∃ k : Nat, k ≤ 4 ∧ c = .int .i64 k ∧ Hid (∀ i, i < 2 * k → 0 ≤ nib s i) ∧ Hid (Bk wr B #[.int .u8 0, .int .u8 0, .int .u8 0, .int .u8 0]) ∧ Hid (Bk wr (B + 1) #[pixG s k 0, pixG s k 1, pixG s k 2, pixG s k 3]) ∧ Hid (Ext w wr)) (fun c _ => 4 - (intOf c).toNat)
    case atStart => exact ⟨0, by omega, rfl, Lib.hid (fun i h => by omega), HB0, HB1, HX⟩
    case round =>
      obtain ⟨k, hk, rfl, HN, HR, HC, HW⟩ := hrel
      by_cases hlt : k < 4
      · have t0 : decide ((k : Int) < 4) = true := decide_eq_true (by omega)
        have h1 : 2 * k < s.size := by omega
        have h2 : 2 * k + 1 < s.size := by omega
        have i1 : ((2 : Int) * (k : Int)).toNat = 2 * k := by omega
        have i2 : ((2 : Int) * (k : Int) + 1).toNat = 2 * k + 1 := by omega
        have b1 : (0 : Int) ≤ 2 * (k : Int) := by omega
        have b2 : (2 : Int) * (k : Int) < (s.size : Int) := by omega
        have b3 : (0 : Int) ≤ 2 * (k : Int) + 1 := by omega
        have b4 : (2 : Int) * (k : Int) + 1 < (s.size : Int) := by omega
        obtain ⟨X, hX⟩ : ∃ X, nib s (2 * k) = X := ⟨_, rfl⟩
        obtain ⟨Y, hY⟩ : ∃ Y, nib s (2 * k + 1) = Y := ⟨_, rfl⟩
        have D1 : Hid (∀ w, Calls Tryd.prog 47 #[.int .u8 (s[2 * k].toNat : Int)] w fun e w' => e = .returned (.int .i64 X) ∧ w = w') := Lib.hid (fun w => by rw [← hX, nib_at h1]; exact digitOf_any _ (s[2 * k].toNat_lt) w)
        have D2 : Hid (∀ w, Calls Tryd.prog 47 #[.int .u8 (s[2 * k + 1].toNat : Int)] w fun e w' => e = .returned (.int .i64 Y) ∧ w = w') := Lib.hid (fun w => by rw [← hY, nib_at h2]; exact digitOf_any _ (s[2 * k + 1].toNat_lt) w)
        have lX := nib_lt s (2 * k)
        have lY := nib_lt s (2 * k + 1)
        rw [hX] at lX
        rw [hY] at lY
        have H8 := Lib.hid h8
        clear h8
        go_wp2_with fail
        refine (D1.out _).mono ?_
        rintro e _ ⟨rfl, rfl⟩
        go_wp2_with fail
        refine (D2.out _).mono ?_
        rintro e _ ⟨rfl, rfl⟩
        have k0 := HR.out.cell 0
        have k1 := HR.out.cell 1
        have k2 := HR.out.cell 2
        have k3 := HR.out.cell 3
        have f0 := HR.out.frozen 0
        have f1 := HR.out.frozen 1
        have f2 := HR.out.frozen 2
        have f3 := HR.out.frozen 3
        simp only [List.getElem?_toArray, List.getElem?_cons_succ, List.getElem?_cons_zero] at k0 k1 k2 k3
        by_cases qX : X < 0
        · have t1 : decide (X < 0) = true := decide_eq_true qX
          have HV : Hid (pixOfV s = .tuple #[pixv 0 0 0 0, .bool false]) := Lib.hid (by unfold pixOfV; exact if_neg (fun h => by have := h.2 (2 * k) (by omega); omega))
          clear qX hX hY lX lY
          go_wp2_with fail
          refine bodyPost_ret (v := pixOfV s) (by rw [HV.out]; simp [results, Tryd.results31, go_sem, *]) rfl ⟨rfl, ?_⟩
          exact Below.setCell (Below.setCell (Below.setCell (Below.setCell HW.out (Nat.le_of_eq HZ.out.2) _) (Nat.le_of_eq HZ.out.2) _) (Nat.le_of_eq HZ.out.2) _) (Nat.le_of_eq HZ.out.2) _
        · have t1 : decide (X < 0) = false := decide_eq_false qX
          by_cases qY : Y < 0
          · have t2 : decide (Y < 0) = true := decide_eq_true qY
            have HV : Hid (pixOfV s = .tuple #[pixv 0 0 0 0, .bool false]) := Lib.hid (by unfold pixOfV; exact if_neg (fun h => by have := h.2 (2 * k + 1) (by omega); omega))
            clear qX qY hX hY lX lY
            go_wp2_with fail
            refine bodyPost_ret (v := pixOfV s) (by rw [HV.out]; simp [results, Tryd.results31, go_sem, *]) rfl ⟨rfl, ?_⟩
            exact Below.setCell (Below.setCell (Below.setCell (Below.setCell HW.out (Nat.le_of_eq HZ.out.2) _) (Nat.le_of_eq HZ.out.2) _) (Nat.le_of_eq HZ.out.2) _) (Nat.le_of_eq HZ.out.2) _
          · have t2 : decide (Y < 0) = false := decide_eq_false qY
            obtain ⟨Z, hZ⟩ : ∃ Z, pixB s k = Z := ⟨_, rfl⟩
            have hZ2 : 16 * X + Y = Z := by rw [← hZ, pixB, hX, hY]
            have w1 : IntKind.u8.wrap Z = Z := by rw [IntKind.wrap_u8']; omega
            have w2 : IntKind.u8.wrap (16 * X + Y) = Z := by rw [hZ2]; exact w1
            have w3 : (16 * X + Y) % 256 = Z := by omega
            have HN2 : Hid (∀ i, i < 2 * (k + 1) → 0 ≤ nib s i) := Lib.hid (fun i hi => by
              rcases Nat.lt_or_ge i (2 * k) with q | q
              · exact HN.out i q
              · obtain rfl | rfl : i = 2 * k ∨ i = 2 * k + 1 := by omega
                · rw [hX]; omega
                · rw [hY]; omega)
            have c4 : wr.cell? ⟨B + 1, k, none⟩ = some (.int .u8 0) := (HC.out.cell k).trans (pixG_at s k hlt)
            have f4 := HC.out.frozen k
            have HS : Hid (Bk (wr.setCell ⟨B + 1, k, none⟩ (.int .u8 Z)) (B + 1) #[pixG s (k + 1) 0, pixG s (k + 1) 1, pixG s (k + 1) 2, pixG s (k + 1) 3]) := by
              have h := HC.out.set_ k (.int .u8 Z)
              rw [← hZ, pixG_set s k hlt] at h
              rw [← hZ]
              exact Lib.hid h
            have HR2 := Lib.hid (HR.out.far (p := ⟨B + 1, k, none⟩) (show B ≠ B + 1 by omega) (.int .u8 Z))
            have HW2 := Lib.hid (Below.setCell HW.out (show w.heap.size ≤ B + 1 by rw [HZ.out.2]; omega) (.int .u8 Z) : Ext w (wr.setCell ⟨B + 1, k, none⟩ (.int .u8 Z)))
            have lX0 : 0 ≤ X := by omega
            have lY0 : 0 ≤ Y := by omega
            clear qX qY hX hY hZ k0 k1 k2 k3 f0 f1 f2 f3
            have v1 : wrap64 (16 * X) = 16 * X := by unfold wrap64; omega
            have v2 : wrap64 (16 * X + Y) = 16 * X + Y := by unfold wrap64; omega
            go_wp2_with fail
            go_roundw
            case rel => exact ⟨k + 1, by omega, by go_num, HN2, HR2, HS, HW2⟩
            case measure => simp [intOf]; omega
      · obtain rfl : k = 4 := by omega
        have t0 : decide (((4 : Nat) : Int) < 4) = false := by decide
        have HV : Hid (pixOfV s = .tuple #[pixv (pixB s 0) (pixB s 1) (pixB s 2) (pixB s 3), .bool true]) := Lib.hid (by unfold pixOfV; exact if_pos ⟨h8, fun i hi => HN.out i (by omega)⟩)
        have HE : Hid (Bk wr (B + 1) #[.int .u8 (pixB s 0), .int .u8 (pixB s 1), .int .u8 (pixB s 2), .int .u8 (pixB s 3)]) := by
          have h := HC.out
          simp only [pixG, show (0 : Nat) < 4 by decide, show (1 : Nat) < 4 by decide, show (2 : Nat) < 4 by decide, show (3 : Nat) < 4 by decide, if_true] at h
          exact Lib.hid h
        clear h8
        go_wp2_with fail
        have k0 := HE.out.cell 0
        have k1 := HE.out.cell 1
        have k2 := HE.out.cell 2
        have k3 := HE.out.cell 3
        simp only [List.getElem?_toArray, List.getElem?_cons_succ, List.getElem?_cons_zero] at k0 k1 k2 k3
        have HRd := Lib.hid (HR.out.ext (Below.drew (Ext.refl wr)))
        have HWd := Lib.hid (Below.drew HW.out)
        refine wp_region_still_tail 13 (by kernel_rfl) (by kernel_rfl) ?_
        simp only [List.take_succ_cons, List.take_zero, List.drop_succ_cons, List.drop_zero]
        repeat still_step
        refine wpStill_nil ?_
        change wpList _ _ _ _ _ wr.drew
        clear k0 k1 k2 k3
        generalize wr.drew = wd at HRd HWd ⊢
        have k0 := HRd.out.cell 0
        have k1 := HRd.out.cell 1
        have k2 := HRd.out.cell 2
        have k3 := HRd.out.cell 3
        have f0 := HRd.out.frozen 0
        have f1 := HRd.out.frozen 1
        have f2 := HRd.out.frozen 2
        have f3 := HRd.out.frozen 3
        simp only [List.getElem?_toArray, List.getElem?_cons_succ, List.getElem?_cons_zero] at k0 k1 k2 k3
        go_wp2_with fail
        refine bodyPost_ret (v := pixOfV s) (by rw [HV.out]; simp [results, Tryd.results31, go_sem, *]) rfl ⟨rfl, ?_⟩
        exact Below.setCell (Below.setCell (Below.setCell (Below.setCell HWd.out (Nat.le_of_eq HZ.out.2) _) (Nat.le_of_eq HZ.out.2) _) (Nat.le_of_eq HZ.out.2) _) (Nat.le_of_eq HZ.out.2) _
  · have t8 : ((s.size : Int) != 8) = true := by simp only [bne_iff_ne]; omega
    have HV : Hid (pixOfV s = .tuple #[pixv 0 0 0 0, .bool false]) := Lib.hid (by unfold pixOfV; exact if_neg (fun h => h8 h.1))
    clear h8
    go_enter Tryd.func31, Tryd.ntmps31
    go_wp2_with fail
    refine bodyPost_ret (v := pixOfV s) (by rw [HV.out]; simp [results, Tryd.results31, go_sem, *]) rfl ⟨rfl, ?_⟩
    repeat (first | exact Ext.refl _ | refine Below.setCell ?_ (by simp) _ | refine Ext.alloc ?_ _)
end Go.Proofs.YteacjlalekbhpaaDoor
namespace Go.Proofs.YteacjlalekbhpaaDoor
open Go.RowKit
set_option linter.unusedSimpArgs false
set_option maxRecDepth 100000
theorem digV_low (c : Nat) : digV c < 0 ↔ c < 48 ∨ 102 < c ∨ 57 < c ∧ c < 97 := by unfold digV; split <;> (try split) <;> omega
theorem pxBad_any (c : Nat) (hc : c < 256) (w : World) :
    Calls Tryd.prog 45 #[.int .u8 (c : Int)] w fun e w' => e = .returned (.bool (decide (digV c < 0))) ∧ w = w' := by
  by_cases h1 : c < 48
  · have t1 : decide ((c : Int) < 48) = true := decide_eq_true (by omega)
    have HV := Lib.hid (decide_eq_true ((digV_low c).2 (Or.inl h1)))
    clear h1 hc
    go_enter Tryd.func45, Tryd.ntmps45
    go_wp2_with fail
    go_ret
    exact ⟨by rw [HV.out]; rfl, rfl⟩
  · have t1 : decide ((c : Int) < 48) = false := decide_eq_false (by omega)
    by_cases h2 : 102 < c
    · have t2 : decide ((102 : Int) < (c : Int)) = true := decide_eq_true (by omega)
      have HV := Lib.hid (decide_eq_true ((digV_low c).2 (Or.inr (Or.inl h2))))
      clear h1 h2 hc
      go_enter Tryd.func45, Tryd.ntmps45
      go_wp2_with fail
      go_ret
      exact ⟨by rw [HV.out]; rfl, rfl⟩
    · have t2 : decide ((102 : Int) < (c : Int)) = false := decide_eq_false (by omega)
      by_cases h3 : 57 < c
      · have t3 : decide ((57 : Int) < (c : Int)) = true := decide_eq_true (by omega)
        by_cases h4 : c < 97
        · have t4 : decide ((c : Int) < 97) = true := decide_eq_true (by omega)
          have HV := Lib.hid (decide_eq_true ((digV_low c).2 (Or.inr (Or.inr ⟨h3, h4⟩))))
          clear h1 h2 h3 h4 hc
          go_enter Tryd.func45, Tryd.ntmps45
          go_wp2_with fail
          go_ret
          exact ⟨by rw [HV.out]; rfl, rfl⟩
        · have t4 : decide ((c : Int) < 97) = false := decide_eq_false (by omega)
          have HV := Lib.hid (decide_eq_false (fun h => by have := (digV_low c).1 h; omega) : decide (digV c < 0) = false)
          clear h1 h2 h3 h4 hc
          go_enter Tryd.func45, Tryd.ntmps45
          go_wp2_with fail
          go_ret
          exact ⟨by rw [HV.out]; rfl, rfl⟩
      · have t3 : decide ((57 : Int) < (c : Int)) = false := decide_eq_false (by omega)
        have HV := Lib.hid (decide_eq_false (fun h => by have := (digV_low c).1 h; omega) : decide (digV c < 0) = false)
        clear h1 h2 h3 hc
        go_enter Tryd.func45, Tryd.ntmps45
        go_wp2_with fail
        go_ret
        exact ⟨by rw [HV.out]; rfl, rfl⟩
/-- a text's bytes in a block -/
def BytB (w : World) (B : Nat) (s : ByteArray) : Prop := ∀ j (h : j < s.size), w.cell? ⟨B, j, none⟩ = some (.int .u8 ((s[j]).toNat : Int))
theorem bytB_laid (s : ByteArray) (w : World) : BytB (Lib.bytesWorld w 5 s) w.heap.size s := fun j h => by
  have := Lib.bytesWorld_cell w 5 s j h
  rw [this]
  simp [List.getD, h]
  rfl
theorem bytB_ext (s : ByteArray) (w : World) : Ext w (Lib.bytesWorld w 5 s) := ⟨rfl, rfl, rfl, by rw [Lib.bytesWorld_size]; omega, fun k hk => Lib.bytesWorld_at_old w _ s k hk⟩
theorem idxB (B n cap : Nat) (s : ByteArray) (w : World) (hn : s.size = n) (hm : n ≤ maxLen) (hB : BytB w B s) :
    Calls Tryd.prog 57 #[.slice (some ⟨B, 0, none⟩) n cap, .func (.func 45) #[] #[]] w fun e w' => (∃ i : Int, e = .returned (.int .i64 i) ∧ ((i = -1 ∧ ∀ j, j < n → 0 ≤ nib s j) ∨ (0 ≤ i ∧ ∃ j, j < n ∧ nib s j < 0))) ∧ w = w' := by
  unfold maxLen at hm
  have HB := Lib.hid hB
  clear hB
  go_enter Tryd.func57, Tryd.ntmps57
  go_wp2
  go_loop [5, 8] (fun _ c => ∃ i : Nat, i ≤ n ∧ c = .int .i64 i ∧ Hid (∀ j, j < i → 0 ≤ nib s j)) (fun _ c => n - (intOf c).toNat)
  case atStart => exact ⟨0, by omega, rfl, Lib.hid fun j hj => by omega⟩
  case round =>
    obtain ⟨i, hi, rfl, HF⟩ := hrel
    by_cases hlt : i < n
    · have hc := HB.out i (by omega)
      have HD : Hid (∀ w, Calls Tryd.prog 45 #[.int .u8 (s[i].toNat : Int)] w fun e w' => e = .returned (.bool (decide (nib s i < 0))) ∧ w = w') := Lib.hid (fun w => by rw [nib_at (by omega)]; exact pxBad_any _ (s[i].toNat_lt) w)
      generalize s[i].toNat = c at hc HD
      go_wp2_with fail
      refine (HD.out _).mono ?_
      rintro e w1 ⟨rfl, rfl⟩
      by_cases hbad : nib s i < 0
      · have hb := decide_eq_true hbad
        have HBAD := Lib.hid hbad
        clear hbad
        go_wp2_with fail
        go_ret
        exact ⟨⟨i, rfl, .inr ⟨by omega, i, hlt, HBAD.out⟩⟩, rfl⟩
      · have hb := decide_eq_false hbad
        have HBAD := Lib.hid hbad
        clear hbad
        go_wp2_with fail
        go_round
        case rel =>
          refine ⟨i + 1, by omega, by go_num, Lib.hid fun j hj => ?_⟩
          rcases Nat.lt_succ_iff_lt_or_eq.1 hj with q | rfl
          · exact HF.out j q
          · have := HBAD.out; omega
        case measure => simp [intOf]; omega
    · obtain rfl : i = n := by omega
      go_wp2
      go_ret
      exact ⟨⟨-1, rfl, .inl ⟨rfl, HF.out⟩⟩, rfl⟩
theorem hasB (B n cap : Nat) (s : ByteArray) (w : World) (hn : s.size = n) (hm : n ≤ maxLen) (hB : BytB w B s) :
    Calls Tryd.prog 44 #[.slice (some ⟨B, 0, none⟩) n cap, .func (.func 45) #[] #[]] w fun e w' => (∃ b : Bool, e = .returned (.bool b) ∧ ((b = false ∧ ∀ j, j < n → 0 ≤ nib s j) ∨ (b = true ∧ ∃ j, j < n ∧ nib s j < 0))) ∧ w = w' := by
  go_enter Tryd.func44, Tryd.ntmps44
  go_wp2_with fail
  refine (idxB B n cap s w hn hm hB).mono ?_
  rintro e w1 ⟨⟨i, rfl, h⟩, rfl⟩
  rcases h with ⟨rfl, h⟩ | ⟨hi, h⟩
  · have H := Lib.hid h
    clear h
    go_wp2_with fail
    go_ret
    exact ⟨⟨false, rfl, .inl ⟨rfl, H.out⟩⟩, rfl⟩
  · have H := Lib.hid h
    have t : decide ((0 : Int) ≤ i) = true := decide_eq_true hi
    clear h
    go_wp2_with fail
    go_ret
    exact ⟨⟨true, by simp, .inr ⟨rfl, H.out⟩⟩, rfl⟩
theorem lower_any (c : Nat) (hc : 97 ≤ c ∧ c ≤ 102) (w : World) :
    Calls Tryd.prog 66 #[.int .u8 (c : Int)] w fun e w' => e = .returned (.int .u8 (c : Int)) ∧ w = w' := by
  obtain rfl | rfl | rfl | rfl | rfl | rfl : c = 97 ∨ c = 98 ∨ c = 99 ∨ c = 100 ∨ c = 101 ∨ c = 102 := by omega
  all_goals
    go_enter Tryd.func66, Tryd.ntmps66
    go_wp2_with fail
    go_ret
    exact ⟨rfl, rfl⟩
end Go.Proofs.YteacjlalekbhpaaDoor
namespace Go.Proofs.YteacjlalekbhpaaDoor
open Go.RowKit
set_option linter.unusedSimpArgs false
set_option maxRecDepth 100000
set_option maxHeartbeats 8000000 in
theorem parse16_any (s : ByteArray) (w : World) (hs : s.size = 8) (hv : ∀ i, i < 8 → 0 ≤ nib s i) :
    Calls Tryd.prog 58 #[.string s, .int .i64 16, .int .i64 32] w fun e w' => e = .returned (.tuple #[.int .u64 (hexN s 8), .nilIface]) ∧ Ext w w' := by
  have hcv := Lib.run_convert_string_bytes (P := Tryd.prog) w 9 66 5 s Tryd.underlying9 Tryd.underlying66 Tryd.underlying5
  have HB := Lib.hid (bytB_laid s w)
  have HX := Lib.hid (bytB_ext s w)
  obtain ⟨W1, hW1⟩ : ∃ W1, W1 = Lib.bytesWorld w 5 s := ⟨_, rfl⟩
  rw [← hW1] at hcv HB HX
  clear hW1
  obtain ⟨B, hB⟩ : ∃ B, w.heap.size = B := ⟨_, rfl⟩
  rw [hB] at hcv HB
  obtain ⟨cap, hcap⟩ : ∃ cap, grownCap w s.size 0 5 = cap := ⟨_, rfl⟩
  rw [hcap, hs] at hcv
  have HV := Lib.hid hv
  have HS := Lib.hid hs
  have hne : s.toList.isEmpty = false := by
    rw [← decide_eq_emptyBytes]
    exact decide_eq_false (fun h => by rw [h] at hs; exact absurd hs (by decide))
  clear hB hcap hv hs
  have hmv : IntKind.u64.wrap (IntKind.u64.wrap 4294967296 - 1) = 4294967295 := by
    rw [IntKind.wrap_u64, IntKind.wrap_u64]
    decide
  go_enter Tryd.func58, Tryd.ntmps58
  go_wp2_with fail
  go_loop [12, 13, 101] (fun vu vn vi => ∃ k : Nat, vu = .bool false ∧ vn = .int .u64 (hexN s k) ∧ vi = .int .i64 k ∧ k ≤ 8) (fun _ _ vi => 8 - (intOf vi).toNat)
  case atStart => exact ⟨0, rfl, rfl, rfl, by omega⟩
  case round =>
    obtain ⟨k, rfl, rfl, rfl, hk⟩ := hrel
    by_cases hk8 : k < 8
    · have t0 : decide ((k : Int) < 8) = true := decide_eq_true (by omega)
      have hks : k < s.size := by rw [HS.out]; exact hk8
      have hc := HB.out k hks
      have hn0 := HV.out k hk8
      rw [nib_at hks] at hn0
      have hb := hexN_bd s HV.out k (by omega)
      have hb2 := hexN_bd s HV.out (k + 1) (by omega)
      have hx : hexN s (k + 1) = 16 * hexN s k + digV (s[k].toNat) := by rw [← nib_at hks]; rfl
      have hp1 : (16 : Int) ^ k ≤ 16 ^ 7 := by
        match k, hk8 with
        | 0, _ => decide
        | 1, _ => decide
        | 2, _ => decide
        | 3, _ => decide
        | 4, _ => decide
        | 5, _ => decide
        | 6, _ => decide
        | 7, _ => decide
      rw [hx] at hb2
      have e16 : (16 : Int) ^ 7 = 268435456 := by decide
      have e17 : (16 : Int) ^ (k + 1) = 16 * 16 ^ k := by rw [Int.pow_succ, Int.mul_comm]
      generalize (16 : Int) ^ k = p16 at hb hb2 hp1 e17
      generalize hY : hexN s (k + 1) = Y at hx
      generalize hexN s k = X at hb hb2 hx ⊢
      have HY := Lib.hid hY
      clear hY
      have hc256 : s[k].toNat < 256 := s[k].toNat_lt
      generalize s[k].toNat = c at hc hn0 hb2 hx hc256
      have hYb : 0 ≤ Y ∧ Y < 4294967296 := by omega
      have hXb : 0 ≤ X ∧ X < 268435456 := by omega
      clear hb hb2 hp1 e16 e17
      by_cases hd : 48 ≤ c ∧ c ≤ 57
      · have hD : digV c = (c : Int) - 48 := by unfold digV; rw [if_pos hd]
        rw [hD] at hx
        obtain ⟨D, hDD⟩ : ∃ D : Int, (c : Int) - 48 = D := ⟨_, rfl⟩
        rw [hDD] at hx
        have b0 : decide ((48 : Int) ≤ (c : Int)) = true := decide_eq_true (by omega)
        have b1 : decide ((c : Int) ≤ 57) = true := decide_eq_true (by omega)
        have b2 : ((c : Int) == 95) = false := beq_eq_false_iff_ne.2 (by omega)
        have d0 : decide ((16 : Int) ≤ D) = false := decide_eq_false (by omega)
        have wD : ∀ z, z = D → IntKind.u8.wrap z = z := by rintro _ rfl; rw [IntKind.wrap_u8']; omega
        have wD2 : ∀ z, z = D → IntKind.u64.wrap z = z := by rintro _ rfl; rw [IntKind.wrap_u64]; omega
        have wX : ∀ z, z = 16 * X → IntKind.u64.wrap z = z := by rintro _ rfl; rw [IntKind.wrap_u64]; omega
        have wY : ∀ z, z = Y → IntKind.u64.wrap z = z := by rintro _ rfl; rw [IntKind.wrap_u64]; omega
        clear hD hn0
        go_wp2_with fail
        refine ⟨⟨k + 1, rfl, by rw [HY.out]; congr 1; omega, by congr 1, by omega⟩, by simp [intOf]; omega⟩
      · have hd2 : 97 ≤ c ∧ c ≤ 102 := by
          unfold digV at hn0
          rw [if_neg hd] at hn0
          by_cases q : 97 ≤ c ∧ c ≤ 102
          · exact q
          · rw [if_neg q] at hn0
            omega
        have hD : digV c = (c : Int) - 87 := by unfold digV; rw [if_neg hd, if_pos hd2]
        rw [hD] at hx
        obtain ⟨C, hC⟩ : ∃ C : Int, (c : Int) - 97 = C := ⟨_, rfl⟩
        obtain ⟨D, hDD⟩ : ∃ D : Int, C + 10 = D := ⟨_, rfl⟩
        rw [show (c : Int) - 87 = D by omega] at hx
        have b0 : decide ((48 : Int) ≤ (c : Int)) = true := decide_eq_true (by omega)
        have b1 : decide ((c : Int) ≤ 57) = false := decide_eq_false (by omega)
        have b2 : ((c : Int) == 95) = false := beq_eq_false_iff_ne.2 (by omega)
        have b3 : decide ((97 : Int) ≤ (c : Int)) = true := decide_eq_true (by omega)
        have b4 : decide ((c : Int) ≤ 122) = true := decide_eq_true (by omega)
        have d0 : decide ((16 : Int) ≤ D) = false := decide_eq_false (by omega)
        have wC : ∀ z, z = C → IntKind.u8.wrap z = z := by rintro _ rfl; rw [IntKind.wrap_u8']; omega
        have wD : ∀ z, z = D → IntKind.u8.wrap z = z := by rintro _ rfl; rw [IntKind.wrap_u8']; omega
        have wD2 : ∀ z, z = D → IntKind.u64.wrap z = z := by rintro _ rfl; rw [IntKind.wrap_u64]; omega
        have wX : ∀ z, z = 16 * X → IntKind.u64.wrap z = z := by rintro _ rfl; rw [IntKind.wrap_u64]; omega
        have wY : ∀ z, z = Y → IntKind.u64.wrap z = z := by rintro _ rfl; rw [IntKind.wrap_u64]; omega
        have LW := Lib.hid (fun w => lower_any c hd2 w)
        have hbD : 0 ≤ D ∧ D < 16 := by omega
        clear hD hn0 hd hd2
        go_wp2_with fail
        refine (LW.out _).mono ?_
        rintro e _ ⟨rfl, rfl⟩
        go_wp2_with fail
        refine (LW.out _).mono ?_
        rintro e _ ⟨rfl, rfl⟩
        go_wp2_with fail
        refine (LW.out _).mono ?_
        rintro e _ ⟨rfl, rfl⟩
        go_wp2_with fail
        refine ⟨⟨k + 1, rfl, by rw [HY.out]; congr 1; omega, by congr 1, by omega⟩, by simp [intOf]; omega⟩
    · obtain rfl : k = 8 := by omega
      have t0 : decide (((8 : Nat) : Int) < 8) = false := by decide
      go_wp2_with fail
      go_ret2
      exact ⟨rfl, HX.out⟩
theorem parseUint_any (s : ByteArray) (w : World) (hs : s.size = 8) (hv : ∀ i, i < 8 → 0 ≤ nib s i) :
    Calls Tryd.prog 46 #[.string s, .int .i64 16, .int .i64 32] w fun e w' => e = .returned (.tuple #[.int .u64 (hexN s 8), .nilIface]) ∧ Ext w w' := by
  have HC := Lib.hid (parse16_any s w hs hv)
  clear hs hv
  go_enter Tryd.func46, Tryd.ntmps46
  go_wp2_with fail
  refine HC.out.mono ?_
  rintro e w1 ⟨rfl, hX⟩
  have HX := Lib.hid hX
  clear hX
  go_wp2_with fail
  go_ret2
  exact ⟨rfl, HX.out⟩
end Go.Proofs.YteacjlalekbhpaaDoor
namespace Go.Proofs.YteacjlalekbhpaaDoor
open Go.RowKit
set_option linter.unusedSimpArgs false
set_option maxRecDepth 100000
/-- a pixel that is read -/
theorem pxRead_any (s : ByteArray) (w : World) (E : Nat → Addr) (hE : Errs w E) :
    Calls Tryd.prog 30 #[.string s] w fun e w' => (((¬ s.size = 8 ∨ ∃ i, i < 8 ∧ nib s i < 0) ∧ e = .returned (.tuple #[pixv 0 0 0 0, sentV (E 0)])) ∨ (s.size = 8 ∧ (∀ i, i < 8 → 0 ≤ nib s i) ∧ e = .returned (.tuple #[pixv (pixB s 0) (pixB s 1) (pixB s 2) (pixB s 3), .nilIface]))) ∧ Ext w w' := by
  have hv := hE.var 0 (by decide)
  have hl := World.block_lt_of_cell? w _ hv
  have HE := Lib.hid hE
  simp only [gk, sentV] at hv hl ⊢
  clear hE
  by_cases h8 : s.size = 8
  · have t8 : ((s.size : Int) != 8) = false := by rw [h8]; rfl
    obtain ⟨W0, hW0⟩ : ∃ W0, W0 = w.alloc (.cells #[.int .u8 0, .int .u8 0, .int .u8 0, .int .u8 0] 34) := ⟨_, rfl⟩
    have hcv := Lib.run_convert_string_bytes (P := Tryd.prog) W0 9 66 5 s Tryd.underlying9 Tryd.underlying66 Tryd.underlying5
    rw [h8, hW0] at hcv
    have HB := Lib.hid (bytB_laid s W0)
    have HX := Lib.hid (bytB_ext s W0)
    have H8 := Lib.hid h8
    rw [hW0] at HB HX
    clear hW0 h8
    go_enter Tryd.func30, Tryd.ntmps30
    go_wp2_with fail
    refine calls_world (fun wz => Ext w wz ∧ Bk wz w.heap.size #[.int .u8 0, .int .u8 0, .int .u8 0, .int .u8 0] ∧ BytB wz (w.heap.size + 1) s) ⟨((Ext.refl w).alloc _).trans HX.out, (Bk.at rfl).ext HX.out, by have := HB.out; simpa using this⟩ ?_
    rintro wz ⟨hX, hR, hZ⟩
    have HX2 := Lib.hid hX
    have HR := Lib.hid hR
    have hv2 : wz.cell? ⟨1, 0, none⟩ = _ := (hX.cell (p := ⟨1, 0, none⟩) hl).trans hv
    have hl2 : 1 < wz.heap.size := World.block_lt_of_cell? wz _ hv2
    refine (hasB _ 8 _ s wz H8.out (by decide) hZ).mono ?_
    clear hX hR hZ hcv HX HB
    generalize hB : w.heap.size = B at HR ⊢
    have HBW := Lib.hid hB
    clear hB
    have q1 : ¬ B = 1 := by have := HBW.out; omega
    have q2 : ¬ 1 = B := by omega
    rintro e _ ⟨⟨b, rfl, hb⟩, rfl⟩
    rcases hb with ⟨rfl, hg⟩ | ⟨rfl, hg⟩
    · have HG := Lib.hid hg
      have HN := Lib.hid (hexN_pix s hg)
      have HC := Lib.hid (fun w => parseUint_any s w H8.out hg)
      clear hg
      go_wp2_with fail
      refine (HC.out _).mono ?_
      rintro e w3 ⟨rfl, hX⟩
      have HX3 := Lib.hid (HX2.out.trans hX)
      have HR3 := Lib.hid (HR.out.ext hX)
      clear hX HX2 HR hv2 hl2
      obtain ⟨n0, n1, n2, n3, n4, n5⟩ := HN.out
      generalize hexN s 8 = n at n0 n1 n2 n3 n4 n5 ⊢
      have n6 : n / 16777216 = pixB s 0 := by omega
      clear n2
      have k0 := HR3.out.cell 0
      have k1 := HR3.out.cell 1
      have k2 := HR3.out.cell 2
      have k3 := HR3.out.cell 3
      have f0 := HR3.out.frozen 0
      have f1 := HR3.out.frozen 1
      have f2 := HR3.out.frozen 2
      have f3 := HR3.out.frozen 3
      simp only [List.getElem?_toArray, List.getElem?_cons_succ, List.getElem?_cons_zero] at k0 k1 k2 k3
      go_wp2_with fail
      refine bodyPost_ret (v := _) (by simp [results, Tryd.results30, go_sem, *]) rfl ⟨.inr ⟨H8.out, HG.out, rfl⟩, ?_⟩
      repeat (first | exact HX3.out | refine Below.setCell ?_ (Nat.le_of_eq HBW.out) _ | apply below_drewN | refine Ext.alloc ?_ _)
    · have HG := Lib.hid hg
      clear hg hv hl
      have k0 := HR.out.cell 0
      have k1 := HR.out.cell 1
      have k2 := HR.out.cell 2
      have k3 := HR.out.cell 3
      have f0 := HR.out.frozen 0
      have f1 := HR.out.frozen 1
      have f2 := HR.out.frozen 2
      have f3 := HR.out.frozen 3
      simp only [List.getElem?_toArray, List.getElem?_cons_succ, List.getElem?_cons_zero] at k0 k1 k2 k3
      go_wp2_with fail
      go_region
      all_goals (try go_wp2_with fail)
      all_goals (refine bodyPost_ret (v := _) (by simp [results, Tryd.results30, go_sem, *]) rfl ⟨.inl ⟨.inr HG.out, rfl⟩, ?_⟩)
      all_goals (repeat (first | exact HX2.out | refine Below.setCell ?_ (Nat.le_of_eq HBW.out) _ | apply below_drewN | refine Ext.alloc ?_ _))
  · have t8 : ((s.size : Int) != 8) = true := by simp only [bne_iff_ne]; omega
    have H8 := Lib.hid h8
    clear h8
    go_enter Tryd.func30, Tryd.ntmps30
    go_wp2_with fail
    go_region
    all_goals (try go_wp2_with fail)
    all_goals (refine bodyPost_ret (v := _) (by simp [results, Tryd.results30, go_sem, *]) rfl ⟨.inl ⟨.inl H8.out, rfl⟩, ?_⟩)
    all_goals (repeat (first | exact Ext.refl _ | refine Below.setCell ?_ (by simp) _ | apply below_drewN | refine Ext.alloc ?_ _))
end Go.Proofs.YteacjlalekbhpaaDoor
namespace Go.Proofs.YteacjlalekbhpaaDoor
open Go.RowKit
set_option linter.unusedSimpArgs false
set_option maxRecDepth 100000
theorem coded_any (w : World) (E : Nat → Addr) (hE : Errs w E) (v : Value) (c a n : Int) (h : ErrV w E v c a) : Calls Tryd.prog 22 #[v, .int .i64 n] w fun e w' => e = .returned (.bool (decide (c = n ∧ a = -1))) ∧ Ext w w' := by
  by_cases hc : c = n
  · subst hc
    go_enter Tryd.func22, Tryd.ntmps22
    go_wp2_with fail
    refine (code_any _ E hE _ _ _ h).mono ?_
    rintro e w2 ⟨rfl, h2⟩
    go_wp2_with fail
    go_ret
    exact ⟨ret_bool (by rw [Bool.eq_iff_iff]; simp), h2⟩
  · have t1 : (c == n) = false := beq_eq_false_iff_ne.2 hc
    go_enter Tryd.func22, Tryd.ntmps22
    go_wp2_with fail
    refine (code_any _ E hE _ _ _ h).mono ?_
    rintro e w2 ⟨rfl, h2⟩
    go_wp2_with fail
    go_ret
    exact ⟨ret_bool (by rw [Bool.eq_iff_iff]; simp [hc]), h2⟩
end Go.Proofs.YteacjlalekbhpaaDoor
namespace Go.Proofs.YteacjlalekbhpaaDoor
open Go.RowKit
set_option linter.unusedSimpArgs false
set_option maxRecDepth 100000
theorem pixinfo4 : (Tryd.prog.info? 34).map (fun i => (i.zero, i.size, i.bytes)) = some (some (.agg #[.int .u8 0, .int .u8 0, .int .u8 0, .int .u8 0]), 4, 4) := by kernel_rfl
theorem add_add4 (a : Addr) (i c : Nat) (hc : c ≠ 0) : a.add (i * 4 + c) = ⟨(a.add (i * 4)).block, (a.add (i * 4)).off + c, none⟩ := by
  unfold Addr.add
  rw [if_neg (by omega)]
  split
  · rename_i h
    have : i = 0 := by omega
    subst this; simp
  · simp [Nat.add_assoc]
/-- the cells of a row, one behind the other -/
theorem Pxs.cells {w : World} {a : Addr} {n : Nat} {px : Nat → P4} (h : Pxs w (some a) n px) (j : Nat) (u : Value) (hj : (pxV n px)[j]? = some u) : w.cell? (a.add j) = some u := by
  have hl : j < n * 4 := by
    rcases Nat.lt_or_ge j (n * 4) with q | q
    · exact q
    · rw [List.getElem?_eq_none (by rw [pxV_length]; exact q)] at hj; cases hj
  rw [pxV_get _ _ _ hl] at hj
  injection hj with hj
  subst hj
  obtain ⟨c0, c1, c2, c3, _⟩ := h.2 a rfl (j / 4) (by omega)
  obtain ⟨i, c, rfl, hc⟩ : ∃ i c, j = i * 4 + c ∧ c < 4 := ⟨j / 4, j % 4, by omega, by omega⟩
  rw [show (i * 4 + c) / 4 = i by omega] at c0 c1 c2 c3
  match c, hc with
  | 0, _ => rw [Nat.add_zero, cellP_0]; exact c0
  | 1, _ => rw [cellP_1, add_add4 _ _ _ (by decide)]; exact c1
  | 2, _ => rw [cellP_2, add_add4 _ _ _ (by decide)]; exact c2
  | 3, _ => rw [cellP_3, add_add4 _ _ _ (by decide)]; exact c3
theorem cells_one (n : Nat) (px : Nat → P4) : ∀ u ∈ pxV n px, u.oneCell' = true := by
  intro u hu
  obtain ⟨j, _, rfl⟩ := List.mem_map.1 hu
  exact cellP_one px j
/-- what a pixel's own text spells -/
theorem nib_text (r g b a : Nat) (hr : r < 256) (hg : g < 256) (hb : b < 256) (ha : a < 256) : (textS r g b a).size = 8 ∧ (∀ i, i < 8 → 0 ≤ nib (textS r g b a) i) ∧ pixB (textS r g b a) 0 = r ∧ pixB (textS r g b a) 1 = g ∧ pixB (textS r g b a) 2 = b ∧ pixB (textS r g b a) 3 = a := by
  have hd : ∀ q, q < 16 → digV (hexB q).toNat = (q : Int) := by decide +kernel
  have e0 : nib (textS r g b a) 0 = ((r / 16 : Nat) : Int) := (nib_at (s := textS r g b a) (i := 0) (by decide : 0 < 8)).trans (hd _ (by omega))
  have e1 : nib (textS r g b a) 1 = ((r % 16 : Nat) : Int) := (nib_at (s := textS r g b a) (i := 1) (by decide : 1 < 8)).trans (hd _ (by omega))
  have e2 : nib (textS r g b a) 2 = ((g / 16 : Nat) : Int) := (nib_at (s := textS r g b a) (i := 2) (by decide : 2 < 8)).trans (hd _ (by omega))
  have e3 : nib (textS r g b a) 3 = ((g % 16 : Nat) : Int) := (nib_at (s := textS r g b a) (i := 3) (by decide : 3 < 8)).trans (hd _ (by omega))
  have e4 : nib (textS r g b a) 4 = ((b / 16 : Nat) : Int) := (nib_at (s := textS r g b a) (i := 4) (by decide : 4 < 8)).trans (hd _ (by omega))
  have e5 : nib (textS r g b a) 5 = ((b % 16 : Nat) : Int) := (nib_at (s := textS r g b a) (i := 5) (by decide : 5 < 8)).trans (hd _ (by omega))
  have e6 : nib (textS r g b a) 6 = ((a / 16 : Nat) : Int) := (nib_at (s := textS r g b a) (i := 6) (by decide : 6 < 8)).trans (hd _ (by omega))
  have e7 : nib (textS r g b a) 7 = ((a % 16 : Nat) : Int) := (nib_at (s := textS r g b a) (i := 7) (by decide : 7 < 8)).trans (hd _ (by omega))
  refine ⟨rfl, fun i hi => ?_, ?_, ?_, ?_, ?_⟩
  · match i, hi with
    | 0, _ => rw [e0]; omega
    | 1, _ => rw [e1]; omega
    | 2, _ => rw [e2]; omega
    | 3, _ => rw [e3]; omega
    | 4, _ => rw [e4]; omega
    | 5, _ => rw [e5]; omega
    | 6, _ => rw [e6]; omega
    | 7, _ => rw [e7]; omega
  · show 16 * nib (textS r g b a) 0 + nib (textS r g b a) 1 = _; rw [e0, e1]; omega
  · show 16 * nib (textS r g b a) 2 + nib (textS r g b a) 3 = _; rw [e2, e3]; omega
  · show 16 * nib (textS r g b a) 4 + nib (textS r g b a) 5 = _; rw [e4, e5]; omega
  · show 16 * nib (textS r g b a) 6 + nib (textS r g b a) 7 = _; rw [e6, e7]; omega
/-- the contracts of what the statement calls, with letters for what they tell -/
structure FadesC (r g b a : Nat) (o : Int) (s T : ByteArray) (E : Nat → Addr) (w : World) (F : Int × Int × Int × Int) (fe : Value) : Prop where
  fade : ∀ w', Ext w w' → Calls Tryd.prog 24 #[pixv r g b a, .int .i64 o] w' fun e w'' => e = .returned (.tuple #[pixv F.1 F.2.1 F.2.2.1 F.2.2.2, fe]) ∧ Ext w' w''
  kind : ((o < 0 ∨ 255 < o) ∧ fe = .iface 127 (.pointer (some (E 1))) ∧ F = (0, 0, 0, 0)) ∨ (0 ≤ o ∧ o ≤ 255 ∧ fe = .nilIface ∧ ∀ w', Calls Tryd.prog 25 #[pixv r g b a, .int .i64 o] w' fun e w'' => e = .returned (pixv F.1 F.2.1 F.2.2.1 F.2.2.2) ∧ Ext w' w'')
  text : ∀ w', Calls Tryd.prog 28 #[pixv r g b a] w' fun e w'' => e = .returned (.string T) ∧ Ext w' w''
  textOf : ∀ w', Calls Tryd.prog 29 #[pixv r g b a] w' fun e w'' => e = .returned (.string T) ∧ Ext w' w''
  back : ∀ w', Ext w w' → Calls Tryd.prog 30 #[.string T] w' fun e w'' => e = .returned (.tuple #[pixv r g b a, .nilIface]) ∧ Ext w' w''
  reads : (∃ x y z t : Int, (∀ w', Ext w w' → Calls Tryd.prog 30 #[.string s] w' fun e w'' => e = .returned (.tuple #[pixv x y z t, .nilIface]) ∧ Ext w' w'') ∧ ∀ w', Calls Tryd.prog 31 #[.string s] w' fun e w'' => e = .returned (.tuple #[pixv x y z t, .bool true]) ∧ Ext w' w'') ∨
    ((∀ w', Ext w w' → Calls Tryd.prog 30 #[.string s] w' fun e w'' => e = .returned (.tuple #[pixv 0 0 0 0, .iface 127 (.pointer (some (E 0)))]) ∧ Ext w' w'') ∧ ∀ w', Calls Tryd.prog 31 #[.string s] w' fun e w'' => e = .returned (.tuple #[pixv 0 0 0 0, .bool false]) ∧ Ext w' w'')
theorem fadeV_lit (r g b a o : Int) : ∃ F : Int × Int × Int × Int, fadeV r g b a o = pixv F.1 F.2.1 F.2.2.1 F.2.2.2 := by
  unfold fadeV
  split
  · exact ⟨(0, 0, 0, 0), rfl⟩
  · exact ⟨(r, g, b, _), rfl⟩
theorem mixV_lit (px : Nat → P4) (n : Nat) : ∃ a b c d, mixV px n = pixv a b c d := by
  unfold mixV
  split
  · exact ⟨0, 0, 0, 0, rfl⟩
  · exact ⟨_, _, _, _, rfl⟩
theorem fadesC (r g b a : Nat) (o : Int) (s : ByteArray) (E : Nat → Addr) (w : World) (hE : Errs w E) (hr : r < 256) (hg : g < 256) (hb : b < 256) (ha : a < 256) : ∃ F fe T, FadesC r g b a o s T E w F fe := by
  have hA : Pix.Byte (a : Int) := by unfold Pix.Byte; omega
  have hN := nib_text r g b a hr hg hb ha
  have hback : ∀ w', Ext w w' → Calls Tryd.prog 30 #[.string (textS r g b a)] w' fun e w'' => e = .returned (.tuple #[pixv r g b a, .nilIface]) ∧ Ext w' w'' := fun w' hx =>
    (pxRead_any (textS r g b a) w' E (hE.ext hx)).mono fun e w'' h => by
      obtain ⟨h, hX⟩ := h
      refine ⟨?_, hX⟩
      rcases h with ⟨q, _⟩ | ⟨_, _, q⟩
      · rcases q with q | ⟨i, hi, q⟩
        · exact absurd hN.1 q
        · have := hN.2.1 i hi; omega
      · rw [q, hN.2.2.1, hN.2.2.2.1, hN.2.2.2.2.1, hN.2.2.2.2.2]
  have hreads : (∃ x y z t : Int, (∀ w', Ext w w' → Calls Tryd.prog 30 #[.string s] w' fun e w'' => e = .returned (.tuple #[pixv x y z t, .nilIface]) ∧ Ext w' w'') ∧ ∀ w', Calls Tryd.prog 31 #[.string s] w' fun e w'' => e = .returned (.tuple #[pixv x y z t, .bool true]) ∧ Ext w' w'') ∨
    ((∀ w', Ext w w' → Calls Tryd.prog 30 #[.string s] w' fun e w'' => e = .returned (.tuple #[pixv 0 0 0 0, .iface 127 (.pointer (some (E 0)))]) ∧ Ext w' w'') ∧ ∀ w', Calls Tryd.prog 31 #[.string s] w' fun e w'' => e = .returned (.tuple #[pixv 0 0 0 0, .bool false]) ∧ Ext w' w'') := by
    by_cases hS : s.size = 8 ∧ ∀ i, i < 8 → 0 ≤ nib s i
    · refine .inl ⟨pixB s 0, pixB s 1, pixB s 2, pixB s 3, fun w' hx => (pxRead_any s w' E (hE.ext hx)).mono fun e w'' h => ?_, fun w' => (pixOf_any s w').mono fun e w'' h => ?_⟩
      · obtain ⟨h, hX⟩ := h
        refine ⟨?_, hX⟩
        rcases h with ⟨q, _⟩ | ⟨_, _, q⟩
        · rcases q with q | ⟨i, hi, q⟩
          · exact absurd hS.1 q
          · have := hS.2 i hi; omega
        · exact q
      · refine ⟨?_, h.2⟩
        rw [h.1]
        unfold pixOfV
        rw [if_pos hS]
    · refine .inr ⟨fun w' hx => (pxRead_any s w' E (hE.ext hx)).mono fun e w'' h => ?_, fun w' => (pixOf_any s w').mono fun e w'' h => ?_⟩
      · obtain ⟨h, hX⟩ := h
        refine ⟨?_, hX⟩
        rcases h with ⟨_, q⟩ | ⟨q1, q2, _⟩
        · exact q
        · exact absurd ⟨q1, q2⟩ hS
      · refine ⟨?_, h.2⟩
        rw [h.1]
        unfold pixOfV
        rw [if_neg hS]
  by_cases ho : 0 ≤ o ∧ o ≤ 255
  · obtain ⟨F, hF⟩ := fadeV_lit r g b a o
    refine ⟨F, .nilIface, textS r g b a, ?_, .inr ⟨ho.1, ho.2, rfl, ?_⟩, fun w' => pxText_any r g b a w' hr hg hb ha, fun w' => pixelText_any r g b a w' hr hg hb ha, hback, hreads⟩
    · intro w' _; rw [← hF]; exact fade_any r g b a o w' hA ho
    · intro w'; rw [← hF]; exact fadeOf_any r g b a o w' hA ho
  · refine ⟨(0, 0, 0, 0), _, textS r g b a, ?_, .inl ⟨by omega, rfl, rfl⟩, fun w' => pxText_any r g b a w' hr hg hb ha, fun w' => pixelText_any r g b a w' hr hg hb ha, hback, hreads⟩
    intro w' hx
    exact fade_bad r g b a o w' E (hE.ext hx) (by omega)
end Go.Proofs.YteacjlalekbhpaaDoor
namespace Go.Proofs.YteacjlalekbhpaaDoor
open Go.RowKit
set_option linter.unusedSimpArgs false
set_option maxRecDepth 100000
set_option maxHeartbeats 4000000 in
theorem fades_any (r g b a : Nat) (o : Int) (x : Option Addr) (n cap : Nat) (px : Nat → P4) (s : ByteArray) (w : World) (E : Nat → Addr) (hE : Errs w E) (hr : r < 256) (hg : g < 256) (hb : b < 256) (ha : a < 256) (hP : Pxs w x n px) (h0 : x = none → cap = 0) :
    Calls Tryd.prog 8 #[pixv r g b a, .int .i64 o, .slice x n cap, .string s] w fun e w' => e = .returned (.bool true) ∧ Ext w w' := by
  obtain ⟨i0, hi0, hz0, hz1, hz2⟩ := info_parts pixinfo4
  obtain ⟨⟨f0, f1, f2, f3⟩, fe, T, C⟩ := fadesC r g b a o s E w hE hr hg hb ha
  have HC := Lib.hid C
  have HE := Lib.hid hE
  have HP := Lib.hid hP
  have H0 := Lib.hid h0
  obtain ⟨B, hB⟩ : ∃ B, w.heap.size = B := ⟨_, rfl⟩
  have HB := Lib.hid hB
  obtain ⟨R, hR⟩ : ∃ R : Int, (r : Int) = R := ⟨_, rfl⟩
  obtain ⟨G, hG⟩ : ∃ G : Int, (g : Int) = G := ⟨_, rfl⟩
  obtain ⟨L, hL⟩ : ∃ L : Int, (b : Int) = L := ⟨_, rfl⟩
  obtain ⟨A, hA⟩ : ∃ A : Int, (a : Int) = A := ⟨_, rfl⟩
  clear C hE hr hg hb ha hP h0
  by_cases hn : 100 < n
  · have t1 : decide ((100 : Int) < (n : Int)) = true := decide_eq_true (by omega)
    clear hn hB
    go_enter Tryd.func8, Tryd.ntmps8
    go_wp2_with fail
    refine (half_any _).mono ?_
    rintro e w1 ⟨rfl, h1⟩
    have X1 := Lib.hid (((Ext.refl w).alloc _).trans h1)
    clear h1
    go_wp2_with fail
    go_ret
    exact ⟨rfl, X1.out⟩
  · have t1 : decide ((100 : Int) < (n : Int)) = false := decide_eq_false (by omega)
    have HN := Lib.hid hn
    clear hn
    have hfd := HC.out.fade
    have htx := HC.out.text
    have hto := HC.out.textOf
    have hbk := HC.out.back
    simp only [hR, hG, hL, hA] at hfd htx hto hbk
    have HFD := Lib.hid hfd
    have HTX := Lib.hid htx
    have HTO := Lib.hid hto
    have HBK := Lib.hid hbk
    have hki := HC.out.kind
    simp only [hR, hG, hL, hA] at hki
    have HKI := Lib.hid hki
    have HRE := Lib.hid HC.out.reads
    rw [hR, hG, hL, hA]
    clear hfd htx hto hbk hki HC hR hG hL hA
    go_enter Tryd.func8, Tryd.ntmps8
    go_wp2_with fail
    refine (half_any _).mono ?_
    rintro e w1 ⟨rfl, h1⟩
    have X1 := Lib.hid (((Ext.refl w).alloc (.cells #[.int .u8 R, .int .u8 G, .int .u8 L, .int .u8 A] 34)).trans h1)
    have P1 : Hid (Bk w1 B #[.int .u8 R, .int .u8 G, .int .u8 L, .int .u8 A]) := Lib.hid ((Bk.at hB).ext h1)
    clear h1 hB
    have k0 := P1.out.cell 0
    have k1 := P1.out.cell 1
    have k2 := P1.out.cell 2
    have k3 := P1.out.cell 3
    simp only [List.getElem?_toArray, List.getElem?_cons_succ, List.getElem?_cons_zero] at k0 k1 k2 k3
    go_wp2_with fail
    refine (HFD.out _ X1.out).mono ?_
    rintro e w2 ⟨rfl, h2⟩
    have X2 := Lib.hid (X1.out.trans h2)
    have P2 := Lib.hid (P1.out.ext h2)
    clear h2 k0 k1 k2 k3 X1 P1
    go_upto_region 5 with fail
    refine wp_world (fun wz => Ext w wz ∧ Bk wz B #[.int .u8 R, .int .u8 G, .int .u8 L, .int .u8 A] ∧ Bk wz w2.heap.size #[.int .u8 f0, .int .u8 f1, .int .u8 f2, .int .u8 f3]) ⟨X2.out.alloc _, P2.out.old, Bk.at rfl⟩ ?_
    rintro w3 ⟨h3, hp, hq⟩
    have X3 := Lib.hid h3
    have P3 := Lib.hid hp
    have Q3 := Lib.hid hq
    clear h3 hp hq X2 P2
    obtain ⟨BQ, hBQ⟩ : ∃ BQ, w2.heap.size = BQ := ⟨_, rfl⟩
    rw [hBQ] at Q3 ⊢
    clear hBQ
    go_cut [37] (fun s wx => s = .bool (decide (o < 0 ∨ 255 < o)) ∧ wx = w3)
    case first =>
      by_cases o0 : o < 0
      · have t2 : decide (o < 0) = true := decide_eq_true o0
        have t3 : decide (o < 0 ∨ 255 < o) = true := decide_eq_true (.inl o0)
        have HT := Lib.hid t3
        clear o0 t3
        go_wp2_with fail
        go_meet
        exact ⟨by rw [HT.out], rfl⟩
      · have t2 : decide (o < 0) = false := decide_eq_false o0
        by_cases o1 : 255 < o
        · have t3 : decide (255 < o) = true := decide_eq_true o1
          have t4 : decide (o < 0 ∨ 255 < o) = true := decide_eq_true (.inr o1)
          have HT := Lib.hid t4
          clear o0 o1 t4
          go_wp2_with fail
          go_meet
          exact ⟨by rw [HT.out], rfl⟩
        · have t3 : decide (255 < o) = false := decide_eq_false o1
          have t4 : decide (o < 0 ∨ 255 < o) = false := decide_eq_false (by omega)
          have HT := Lib.hid t4
          clear o0 o1 t4
          go_wp2_with fail
          go_meet
          exact ⟨by rw [HT.out], rfl⟩
    case rest =>
    obtain ⟨rfl, hw⟩ := hcut
    rw [hw]
    clear hw
    go_upto_if 37 with fail
    go_cut [11] (fun _ wx => Hid (Ext w3 wx))
    case first =>
      rcases HKI.out with ⟨ho, rfl, hF⟩ | ⟨o1, o2, rfl, hF⟩
      · cases hF
        have t2 : decide (o < 0 ∨ 255 < o) = true := decide_eq_true ho
        clear ho
        rw [t2]
        go_wp2_with fail
        refine (coded_any _ E (HE.out.ext X3.out) _ 2 (-1) 2 (.sent 1 (by decide))).mono ?_
        rintro e w4 ⟨he, h4⟩
        have he2 : e = .returned (.bool true) := by rw [he]; exact ret_bool (by decide)
        subst he2
        have H4 := Lib.hid h4
        have k0 := (Q3.out.ext h4).cell 0
        have k1 := (Q3.out.ext h4).cell 1
        have k2 := (Q3.out.ext h4).cell 2
        have k3 := (Q3.out.ext h4).cell 3
        simp only [List.getElem?_toArray, List.getElem?_cons_succ, List.getElem?_cons_zero] at k0 k1 k2 k3
        clear he h4 t2
        go_wp2_with fail
        go_meet
        exact H4
      · have t2 : decide (o < 0 ∨ 255 < o) = false := decide_eq_false (by omega)
        have HFO := Lib.hid hF
        clear o1 o2 hF
        rw [t2]
        have hB0 := P3.out.lt
        have hB1 := Q3.out.lt
        have k0 := P3.out.cell 0
        have k1 := P3.out.cell 1
        have k2 := P3.out.cell 2
        have k3 := P3.out.cell 3
        have q0 := Q3.out.cell 0
        have q1 := Q3.out.cell 1
        have q2 := Q3.out.cell 2
        have q3 := Q3.out.cell 3
        simp only [List.getElem?_toArray, List.getElem?_cons_succ, List.getElem?_cons_zero] at k0 k1 k2 k3 q0 q1 q2 q3
        clear t2
        go_wp2_with fail
        go_region_held3 (fun w' => Ext w3 w' ∧ w'.cell? ⟨B, 0, none⟩ = some (.int .u8 R) ∧ w'.cell? ⟨B, 1, none⟩ = some (.int .u8 G) ∧ w'.cell? ⟨B, 2, none⟩ = some (.int .u8 L) ∧ w'.cell? ⟨B, 3, none⟩ = some (.int .u8 A) ∧ w'.cell? ⟨BQ, 0, none⟩ = some (.int .u8 f0) ∧ w'.cell? ⟨BQ, 1, none⟩ = some (.int .u8 f1) ∧ w'.cell? ⟨BQ, 2, none⟩ = some (.int .u8 f2) ∧ w'.cell? ⟨BQ, 3, none⟩ = some (.int .u8 f3)) (first | exact ⟨Below.drew (Ext.refl w3), k0, k1, k2, k3, q0, q1, q2, q3⟩ | go_keep | exact ⟨Ext.trans (by first | assumption | exact Below.drew (Ext.refl _)) hx, (hx.cell (p := ⟨B, 0, none⟩) (Nat.lt_of_lt_of_le hB0 (show Ext w3 _ from by first | assumption | exact Below.drew (Ext.refl _)).size)).trans (by assumption), (hx.cell (p := ⟨B, 1, none⟩) (Nat.lt_of_lt_of_le hB0 (show Ext w3 _ from by first | assumption | exact Below.drew (Ext.refl _)).size)).trans (by assumption), (hx.cell (p := ⟨B, 2, none⟩) (Nat.lt_of_lt_of_le hB0 (show Ext w3 _ from by first | assumption | exact Below.drew (Ext.refl _)).size)).trans (by assumption), (hx.cell (p := ⟨B, 3, none⟩) (Nat.lt_of_lt_of_le hB0 (show Ext w3 _ from by first | assumption | exact Below.drew (Ext.refl _)).size)).trans (by assumption), (hx.cell (p := ⟨BQ, 0, none⟩) (Nat.lt_of_lt_of_le hB1 (show Ext w3 _ from by first | assumption | exact Below.drew (Ext.refl _)).size)).trans (by assumption), (hx.cell (p := ⟨BQ, 1, none⟩) (Nat.lt_of_lt_of_le hB1 (show Ext w3 _ from by first | assumption | exact Below.drew (Ext.refl _)).size)).trans (by assumption), (hx.cell (p := ⟨BQ, 2, none⟩) (Nat.lt_of_lt_of_le hB1 (show Ext w3 _ from by first | assumption | exact Below.drew (Ext.refl _)).size)).trans (by assumption), (hx.cell (p := ⟨BQ, 3, none⟩) (Nat.lt_of_lt_of_le hB1 (show Ext w3 _ from by first | assumption | exact Below.drew (Ext.refl _)).size)).trans (by assumption)⟩)
          ((go_at_call 25; refine (HFO.out _).mono ?_; rintro e w' ⟨rfl, hx⟩))
        all_goals
          go_wp2_with fail
          rename_i hS
          go_meet
          exact Lib.hid hS.1
    case rest =>
    have X4 := Lib.hid (X3.out.trans hcut.out)
    have P4 := Lib.hid (P3.out.ext hcut.out)
    clear hcut X3 P3 Q3
    go_upto_region 11 with fail
    go_cut [12] (fun v wx => Hid (Ext wc wx) ∧ ∃ x' c', v = .slice x' n c' ∧ Hid (Pxs wx x' n px))
    case first =>
      have hP := HP.out.ext X4.out
      cases x with
      | none =>
        obtain rfl := hP.1 rfl
        obtain rfl := H0.out rfl
        have HP4 := Lib.hid hP
        clear hP
        go_wp2_with (at_builtin; refine wpList_append_own_none rfl _ _ 41 rfl 0 34 i0 4 Tryd.underlying41 hi0 (.slice none 0 0) 0 [] rfl (World.ownsRow_nil _ _ _ _) rfl ?_)
        go_meet
        exact ⟨Lib.hid (Ext.refl _), none, 0, rfl, HP4⟩
      | some ad =>
        have HOK := Lib.hid (fun i hi => (hP.2 ad rfl i hi).2.2.2.2)
        have HCL := Lib.hid hP.cells
        clear hP
        go_wp2_with (at_builtin; refine wpList_append_own_at _ rfl _ _ 41 rfl wc.heap.size 34 i0 _ 4 4 Tryd.underlying41 hi0 hz0 hz1 hz2 rfl (by decide) (.slice none 0 0) 0 [] rfl (World.ownsRow_nil _ _ _ _) ad n cap (pxV n px) rfl (pxV_length _ _) HCL.out (cells_one _ _) ?c3 ?c4 ?c5 ?_)
        case c3 => have := HN.out; unfold maxLen; omega
        case c4 => have := HN.out; omega
        case c5 => simp
        intro v' w5 hown hgrow _ _
        obtain ⟨x', c', rfl, hp, _⟩ := Pxs.of_own hown HOK.out
        have HP5 := Lib.hid hp
        have HX5 := Lib.hid ((Keeps.grown hgrow).below (Nat.le_refl _) (fun k _ q => by cases q))
        clear hown hgrow hp
        go_wp2_with fail
        go_meet
        exact ⟨HX5, x', c', rfl, HP5⟩
    case rest =>
    obtain ⟨hX, x', c', rfl, hP5⟩ := hcut
    obtain ⟨m0, m1, m2, m3, hm⟩ := mixV_lit px n
    have HMA : Hid (∀ w', Pxs w' x' n px → Calls Tryd.prog 26 #[.slice x' n c'] w' fun e w'' => e = .returned (pixv m0 m1 m2 m3) ∧ Ext w' w'') := Lib.hid (fun w' hx => by rw [← hm]; exact mix_any x' n c' px w' hx (by have := HN.out; omega))
    have HMB : Hid (∀ w', Pxs w' x n px → Calls Tryd.prog 27 #[.slice x n cap] w' fun e w'' => e = .returned (pixv m0 m1 m2 m3) ∧ Ext w' w'') := Lib.hid (fun w' hx => by rw [← hm]; exact mixOf_any x n cap px w' hx (by have := HN.out; omega))
    clear hm
    have X_5 := Lib.hid (X4.out.trans hX.out)
    have P_5 := Lib.hid (P4.out.ext hX.out)
    have PA_5 := Lib.hid (hP5.out)
    have PB_5 := Lib.hid (HP.out.ext X_5.out)
    clear hX X4 P4 hP5 HP
    go_wp2_with fail
    refine wp_region_held_drew (S := fun w' => w'.cell? ⟨B, 0, none⟩ = some (.int .u8 R) ∧ w'.cell? ⟨B, 1, none⟩ = some (.int .u8 G) ∧ w'.cell? ⟨B, 2, none⟩ = some (.int .u8 L) ∧ w'.cell? ⟨B, 3, none⟩ = some (.int .u8 A)) (by kernel_rfl) ⟨P_5.out.cell 0, P_5.out.cell 1, P_5.out.cell 2, P_5.out.cell 3⟩ (fun hHeld => ?_)
    clear hHeld
    refine anyH_world (fun wz => Ext wc wz) (show Ext wc wc.drew from Below.drew (Ext.refl wc)) ?_
    rintro v6 h
    have X_6 := Lib.hid (X_5.out.trans h)
    have P_6 := Lib.hid (P_5.out.ext h)
    have PA_6 := Lib.hid (PA_5.out.ext h)
    have PB_6 := Lib.hid (PB_5.out.ext h)
    clear h X_5 P_5 PA_5 PB_5
    have hHeld : v6.cell? ⟨B, 0, none⟩ = some (.int .u8 R) ∧ v6.cell? ⟨B, 1, none⟩ = some (.int .u8 G) ∧ v6.cell? ⟨B, 2, none⟩ = some (.int .u8 L) ∧ v6.cell? ⟨B, 3, none⟩ = some (.int .u8 A) := ⟨P_6.out.cell 0, P_6.out.cell 1, P_6.out.cell 2, P_6.out.cell 3⟩
    refine wpAnyH_take (i := 0) (v := ?_) rfl (by kernel_rfl) (by kernel_rfl) (by kernel_rfl) (fun _ _ _ h => h) (Or.inl ⟨by kernel_rfl, ?_⟩) hHeld ?_
    rotate_left
    · intro w hSw
      (try dsimp only at hSw)
      go_split_ands
      go_simp
      (try with_reducible rfl)
    try simp only [Act.put, List.getElem_toArray, List.getElem_cons_succ, List.getElem_cons_zero, List.setIfInBounds_toArray, List.set_cons_zero, List.set_cons_succ]
    refine wpAnyH_take (i := 2) (v := ?_) rfl (by kernel_rfl) (by kernel_rfl) (by kernel_rfl) (fun _ _ _ h => h) (Or.inl ⟨by kernel_rfl, ?_⟩) hHeld ?_
    rotate_left
    · intro w hSw
      (try dsimp only at hSw)
      go_split_ands
      go_simp
      (try with_reducible rfl)
    try simp only [Act.put, List.getElem_toArray, List.getElem_cons_succ, List.getElem_cons_zero, List.setIfInBounds_toArray, List.set_cons_zero, List.set_cons_succ]
    refine wpAnyH_ready (rs := [1]) (by kernel_rfl) (by simp) ?_
    refine AllReadyH.cons rfl (fun KK hK => ?_) AllReadyH.nil
    clear hHeld
    go_simp
    refine (HMA.out _ PA_6.out).mono ?_
    rintro e v7 ⟨rfl, h⟩
    have X_7 := Lib.hid (X_6.out.trans h)
    have P_7 := Lib.hid (P_6.out.ext h)
    have PA_7 := Lib.hid (PA_6.out.ext h)
    have PB_7 := Lib.hid (PB_6.out.ext h)
    clear h X_6 P_6 PA_6 PB_6
    go_simp
    refine hK.out _ _ ⟨P_7.out.cell 0, P_7.out.cell 1, P_7.out.cell 2, P_7.out.cell 3⟩ (fun hHeld => ?_)
    clear hK KK
    try simp only [Act.put, List.getElem_toArray, List.getElem_cons_succ, List.getElem_cons_zero, List.setIfInBounds_toArray, List.set_cons_zero, List.set_cons_succ]
    refine wpAnyH_ready (rs := [3]) (by kernel_rfl) (by simp) ?_
    refine AllReadyH.cons rfl (fun KK hK => ?_) AllReadyH.nil
    clear hHeld
    go_simp
    refine (HMB.out _ PB_7.out).mono ?_
    rintro e v8 ⟨rfl, h⟩
    have X_8 := Lib.hid (X_7.out.trans h)
    have P_8 := Lib.hid (P_7.out.ext h)
    have PA_8 := Lib.hid (PA_7.out.ext h)
    have PB_8 := Lib.hid (PB_7.out.ext h)
    clear h X_7 P_7 PA_7 PB_7
    go_simp
    refine hK.out _ _ ⟨P_8.out.cell 0, P_8.out.cell 1, P_8.out.cell 2, P_8.out.cell 3⟩ (fun hHeld => ?_)
    clear hK KK
    try simp only [Act.put, List.getElem_toArray, List.getElem_cons_succ, List.getElem_cons_zero, List.setIfInBounds_toArray, List.set_cons_zero, List.set_cons_succ]
    refine wpAnyH_take (i := 4) (v := ?_) rfl (by kernel_rfl) (by kernel_rfl) (by kernel_rfl) (fun _ _ _ h => h) (Or.inl ⟨by kernel_rfl, ?_⟩) hHeld ?_
    rotate_left
    · intro w hSw
      (try dsimp only at hSw)
      go_split_ands
      go_simp
      (try with_reducible rfl)
    try simp only [Act.put, List.getElem_toArray, List.getElem_cons_succ, List.getElem_cons_zero, List.setIfInBounds_toArray, List.set_cons_zero, List.set_cons_succ]
    refine wpAnyH_take (i := 5) (v := ?_) rfl (by kernel_rfl) (by kernel_rfl) (by kernel_rfl) (fun _ _ _ h => h) (Or.inl ⟨by kernel_rfl, ?_⟩) hHeld ?_
    rotate_left
    · intro w hSw
      (try dsimp only at hSw)
      go_split_ands
      go_simp
      (try with_reducible rfl)
    try simp only [Act.put, List.getElem_toArray, List.getElem_cons_succ, List.getElem_cons_zero, List.setIfInBounds_toArray, List.set_cons_zero, List.set_cons_succ]
    refine wpAnyH_take (i := 6) (v := ?_) rfl (by kernel_rfl) (by kernel_rfl) (by kernel_rfl) (fun _ _ _ h => h) (Or.inl ⟨by kernel_rfl, ?_⟩) hHeld ?_
    rotate_left
    · intro w hSw
      (try dsimp only at hSw)
      go_split_ands
      go_simp
      (try with_reducible rfl)
    try simp only [Act.put, List.getElem_toArray, List.getElem_cons_succ, List.getElem_cons_zero, List.setIfInBounds_toArray, List.set_cons_zero, List.set_cons_succ]
    refine wpAnyH_take (i := 8) (v := ?_) rfl (by kernel_rfl) (by kernel_rfl) (by kernel_rfl) (fun _ _ _ h => h) (Or.inl ⟨by kernel_rfl, ?_⟩) hHeld ?_
    rotate_left
    · intro w hSw
      (try dsimp only at hSw)
      go_split_ands
      go_simp
      (try with_reducible rfl)
    try simp only [Act.put, List.getElem_toArray, List.getElem_cons_succ, List.getElem_cons_zero, List.setIfInBounds_toArray, List.set_cons_zero, List.set_cons_succ]
    refine wpAnyH_ready (rs := [7]) (by kernel_rfl) (by simp) ?_
    refine AllReadyH.cons rfl (fun KK hK => ?_) AllReadyH.nil
    clear hHeld
    go_simp
    refine (HTX.out _).mono ?_
    rintro e v9 ⟨rfl, h⟩
    have X_9 := Lib.hid (X_8.out.trans h)
    have P_9 := Lib.hid (P_8.out.ext h)
    have PA_9 := Lib.hid (PA_8.out.ext h)
    have PB_9 := Lib.hid (PB_8.out.ext h)
    clear h X_8 P_8 PA_8 PB_8
    go_simp
    refine hK.out _ _ ⟨P_9.out.cell 0, P_9.out.cell 1, P_9.out.cell 2, P_9.out.cell 3⟩ (fun hHeld => ?_)
    clear hK KK
    try simp only [Act.put, List.getElem_toArray, List.getElem_cons_succ, List.getElem_cons_zero, List.setIfInBounds_toArray, List.set_cons_zero, List.set_cons_succ]
    refine wpAnyH_ready (rs := [9]) (by kernel_rfl) (by simp) ?_
    refine AllReadyH.cons rfl (fun KK hK => ?_) AllReadyH.nil
    clear hHeld
    go_simp
    refine (HTO.out _).mono ?_
    rintro e v10 ⟨rfl, h⟩
    have X_10 := Lib.hid (X_9.out.trans h)
    have P_10 := Lib.hid (P_9.out.ext h)
    have PA_10 := Lib.hid (PA_9.out.ext h)
    have PB_10 := Lib.hid (PB_9.out.ext h)
    clear h X_9 P_9 PA_9 PB_9
    go_simp
    refine hK.out _ _ ⟨P_10.out.cell 0, P_10.out.cell 1, P_10.out.cell 2, P_10.out.cell 3⟩ (fun hHeld => ?_)
    clear hK KK
    try simp only [Act.put, List.getElem_toArray, List.getElem_cons_succ, List.getElem_cons_zero, List.setIfInBounds_toArray, List.set_cons_zero, List.set_cons_succ]
    refine wpAnyH_take (i := 10) (v := ?_) rfl (by kernel_rfl) (by kernel_rfl) (by kernel_rfl) (fun _ _ _ h => h) (Or.inl ⟨by kernel_rfl, ?_⟩) hHeld ?_
    rotate_left
    · intro w hSw
      (try dsimp only at hSw)
      go_split_ands
      go_simp
      (try with_reducible rfl)
    try simp only [Act.put, List.getElem_toArray, List.getElem_cons_succ, List.getElem_cons_zero, List.setIfInBounds_toArray, List.set_cons_zero, List.set_cons_succ]
    refine wpAnyH_take (i := 11) (v := ?_) rfl (by kernel_rfl) (by kernel_rfl) (by kernel_rfl) (fun _ _ _ h => h) (Or.inl ⟨by kernel_rfl, ?_⟩) hHeld ?_
    rotate_left
    · intro w hSw
      (try dsimp only at hSw)
      go_split_ands
      go_simp
      (try with_reducible rfl)
    try simp only [Act.put, List.getElem_toArray, List.getElem_cons_succ, List.getElem_cons_zero, List.setIfInBounds_toArray, List.set_cons_zero, List.set_cons_succ]
    refine wpAnyH_done (by kernel_rfl) ?_ _
    clear hHeld
    have k0 := P_10.out.cell 0
    have k1 := P_10.out.cell 1
    have k2 := P_10.out.cell 2
    have k3 := P_10.out.cell 3
    simp only [List.getElem?_toArray, List.getElem?_cons_succ, List.getElem?_cons_zero] at k0 k1 k2 k3
    go_wp2_with fail
    refine (HTX.out _).mono ?_
    rintro e v11 ⟨rfl, h⟩
    have X_11 := Lib.hid (X_10.out.trans h)
    have P_11 := Lib.hid (P_10.out.ext h)
    have PA_11 := Lib.hid (PA_10.out.ext h)
    have PB_11 := Lib.hid (PB_10.out.ext h)
    clear h X_10 P_10 PA_10 PB_10
    clear k0 k1 k2 k3
    go_wp2_with fail
    refine (HBK.out _ X_11.out).mono ?_
    rintro e v12 ⟨rfl, h⟩
    have X_12 := Lib.hid (X_11.out.trans h)
    have P_12 := Lib.hid (P_11.out.ext h)
    have PA_12 := Lib.hid (PA_11.out.ext h)
    have PB_12 := Lib.hid (PB_11.out.ext h)
    clear h X_11 P_11 PA_11 PB_11
    have k0 := P_12.out.cell 0
    have k1 := P_12.out.cell 1
    have k2 := P_12.out.cell 2
    have k3 := P_12.out.cell 3
    simp only [List.getElem?_toArray, List.getElem?_cons_succ, List.getElem?_cons_zero] at k0 k1 k2 k3
    have hB0 := P_12.out.lt
    go_wp2_with fail
    rcases HRE.out with ⟨y0, y1, y2, y3, hRa, hRb⟩ | ⟨hRa, hRb⟩
    · have HRA := Lib.hid hRa
      have HRB := Lib.hid hRb
      clear hRa hRb k0 k1 k2 k3 hB0
      refine calls_world (fun wz => Ext v12 wz) (Ext.alloc (Ext.refl v12) _) ?_
      rintro v13 h
      have X_13 := Lib.hid (X_12.out.trans h)
      have P_13 := Lib.hid (P_12.out.ext h)
      have PA_13 := Lib.hid (PA_12.out.ext h)
      have PB_13 := Lib.hid (PB_12.out.ext h)
      clear h X_12 P_12 PA_12 PB_12
      refine (HRA.out _ X_13.out).mono ?_
      rintro e v14 ⟨rfl, h⟩
      have X_14 := Lib.hid (X_13.out.trans h)
      have P_14 := Lib.hid (P_13.out.ext h)
      have PA_14 := Lib.hid (PA_13.out.ext h)
      have PB_14 := Lib.hid (PB_13.out.ext h)
      clear h X_13 P_13 PA_13 PB_13
      go_wp2_with fail
      refine calls_world (fun wz => Ext v14 wz ∧ Bk wz v14.heap.size #[.int .u8 y0, .int .u8 y1, .int .u8 y2, .int .u8 y3]) ⟨Ext.alloc (Ext.refl v14) _, Bk.at rfl⟩ ?_
      rintro v15 ⟨h, hY⟩
      have X_15 := Lib.hid (X_14.out.trans h)
      have P_15 := Lib.hid (P_14.out.ext h)
      have PA_15 := Lib.hid (PA_14.out.ext h)
      have PB_15 := Lib.hid (PB_14.out.ext h)
      clear h X_14 P_14 PA_14 PB_14
      have Y_15 := Lib.hid (hY)
      clear hY
      obtain ⟨BY, hBY⟩ : ∃ BY, v14.heap.size = BY := ⟨_, rfl⟩
      rw [hBY] at Y_15 ⊢
      clear hBY
      refine (HRB.out _).mono ?_
      rintro e v16 ⟨rfl, h⟩
      have X_16 := Lib.hid (X_15.out.trans h)
      have P_16 := Lib.hid (P_15.out.ext h)
      have PA_16 := Lib.hid (PA_15.out.ext h)
      have PB_16 := Lib.hid (PB_15.out.ext h)
      have Y_16 := Lib.hid (Y_15.out.ext h)
      clear h X_15 P_15 PA_15 PB_15 Y_15
      have k0 := Y_16.out.cell 0
      have k1 := Y_16.out.cell 1
      have k2 := Y_16.out.cell 2
      have k3 := Y_16.out.cell 3
      simp only [List.getElem?_toArray, List.getElem?_cons_succ, List.getElem?_cons_zero] at k0 k1 k2 k3
      have hB0 := Y_16.out.lt
      go_wp2_with fail
      refine bodyPost_ret (v := .bool true) (by simp [results, Tryd.results8, go_sem, *]) rfl ⟨rfl, ?_⟩
      exact Ext.alloc X_16.out _
    · have HRA := Lib.hid hRa
      have HRB := Lib.hid hRb
      clear hRa hRb k0 k1 k2 k3 hB0
      refine calls_world (fun wz => Ext v12 wz) (Ext.alloc (Ext.refl v12) _) ?_
      rintro v13 h
      have X_13 := Lib.hid (X_12.out.trans h)
      have P_13 := Lib.hid (P_12.out.ext h)
      have PA_13 := Lib.hid (PA_12.out.ext h)
      have PB_13 := Lib.hid (PB_12.out.ext h)
      clear h X_12 P_12 PA_12 PB_12
      refine (HRA.out _ X_13.out).mono ?_
      rintro e v14 ⟨rfl, h⟩
      have X_14 := Lib.hid (X_13.out.trans h)
      have P_14 := Lib.hid (P_13.out.ext h)
      have PA_14 := Lib.hid (PA_13.out.ext h)
      have PB_14 := Lib.hid (PB_13.out.ext h)
      clear h X_13 P_13 PA_13 PB_13
      go_wp2_with fail
      refine calls_world (fun wz => Ext v14 wz ∧ Bk wz v14.heap.size #[.int .u8 0, .int .u8 0, .int .u8 0, .int .u8 0]) ⟨Ext.alloc (Ext.refl v14) _, Bk.at rfl⟩ ?_
      rintro v15 ⟨h, hY⟩
      have X_15 := Lib.hid (X_14.out.trans h)
      have P_15 := Lib.hid (P_14.out.ext h)
      have PA_15 := Lib.hid (PA_14.out.ext h)
      have PB_15 := Lib.hid (PB_14.out.ext h)
      clear h X_14 P_14 PA_14 PB_14
      have Y_15 := Lib.hid (hY)
      clear hY
      obtain ⟨BY, hBY⟩ : ∃ BY, v14.heap.size = BY := ⟨_, rfl⟩
      rw [hBY] at Y_15 ⊢
      clear hBY
      refine (HRB.out _).mono ?_
      rintro e v16 ⟨rfl, h⟩
      have X_16 := Lib.hid (X_15.out.trans h)
      have P_16 := Lib.hid (P_15.out.ext h)
      have PA_16 := Lib.hid (PA_15.out.ext h)
      have PB_16 := Lib.hid (PB_15.out.ext h)
      have Y_16 := Lib.hid (Y_15.out.ext h)
      clear h X_15 P_15 PA_15 PB_15 Y_15
      have k0 := Y_16.out.cell 0
      have k1 := Y_16.out.cell 1
      have k2 := Y_16.out.cell 2
      have k3 := Y_16.out.cell 3
      simp only [List.getElem?_toArray, List.getElem?_cons_succ, List.getElem?_cons_zero] at k0 k1 k2 k3
      have hB0 := Y_16.out.lt
      go_wp2_with fail
      clear k0 k1 k2 k3 hB0
      refine calls_world (fun wz => Ext v16 wz) (Ext.alloc (Ext.refl v16) _) ?_
      rintro v17 h
      have X_17 := Lib.hid (X_16.out.trans h)
      have P_17 := Lib.hid (P_16.out.ext h)
      have PA_17 := Lib.hid (PA_16.out.ext h)
      have PB_17 := Lib.hid (PB_16.out.ext h)
      have Y_17 := Lib.hid (Y_16.out.ext h)
      clear h X_16 P_16 PA_16 PB_16 Y_16
      refine (coded_any _ E (HE.out.ext X_17.out) _ 1 (-1) 1 (.sent 0 (by decide))).mono ?_
      rintro e v18 ⟨he, h⟩
      have he2 : e = .returned (.bool true) := by rw [he]; exact ret_bool (by decide)
      subst he2
      clear he
      have X_18 := Lib.hid (X_17.out.trans h)
      have P_18 := Lib.hid (P_17.out.ext h)
      have PA_18 := Lib.hid (PA_17.out.ext h)
      have PB_18 := Lib.hid (PB_17.out.ext h)
      have Y_18 := Lib.hid (Y_17.out.ext h)
      clear h X_17 P_17 PA_17 PB_17 Y_17
      have k0 := Y_18.out.cell 0
      have k1 := Y_18.out.cell 1
      have k2 := Y_18.out.cell 2
      have k3 := Y_18.out.cell 3
      simp only [List.getElem?_toArray, List.getElem?_cons_succ, List.getElem?_cons_zero] at k0 k1 k2 k3
      go_wp2_with fail
      refine bodyPost_ret (v := .bool true) (by simp [results, Tryd.results8, go_sem, *]) rfl ⟨rfl, ?_⟩
      exact X_18.out
end Go.Proofs.YteacjlalekbhpaaDoor
