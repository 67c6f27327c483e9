/- LzwTwice's walk. -/
import Derived.Test.YtdeiolagnheihaaDoorLzwT
import Derived.Test.YtdeiolagnheihaaDoorLzwZ
import Derived.Test.YtdeiolagnheihaaDoorLzwEnd
namespace Go.Proofs.YtdeiolagnheihaaDoor
open Go.RowKit
set_option maxRecDepth 100000
theorem num_cat (l m : List UInt8) : Crc.num (l ++ m) = Crc.num l + Crc.num m * 2 ^ (8 * l.length) := by
  induction l with
  | nil => simp [Crc.num]
  | cons b l ih =>
    show b.toNat + 256 * Crc.num (l ++ m) = b.toNat + 256 * Crc.num l + _
    rw [ih, List.length_cons, show 8 * (l.length + 1) = 8 * l.length + 8 by omega, Nat.pow_add, Nat.mul_add, ← Nat.add_assoc]
    congr 1
    rw [Nat.mul_comm 256, Nat.mul_assoc]
theorem pk_len (c wd : Nat) (s : ByteArray) (hw : wd ≤ 8) : ∀ (n a : Nat) (L : List ByteArray) (size : Nat) (B : List Bool), size ≤ 12 → s.size - a ≤ n → (Lz.pk c wd s L size a B).length ≤ B.length + 24 * (s.size - a) + 12 := by
  intro n
  induction n with
  | zero => intro a L size B hs h; rw [Lz.pk_none (by omega), List.length_append, Bts.low_length]; omega
  | succ n ih =>
    intro a L size B hs h
    by_cases ha : a < s.size
    · obtain ⟨m, k, hb⟩ : ∃ m k, Lz.best c L s a = (m, k) := ⟨_, _, rfl⟩
      have hm : 1 ≤ m := by have := Lz.bst_pos c L s a L.length; unfold Lz.best at hb; rw [hb] at this; exact this
      have hg : Lz.grow c L size ≤ 12 := by unfold Lz.grow; split <;> omega
      by_cases h1 : s.size ≤ a + m
      · rw [Lz.pk_last ha hb h1, List.length_append, List.length_append, Bts.low_length, Bts.low_length]; omega
      · by_cases h2 : c + 2 + L.length + 1 = 4096
        · have := ih (a + m) [] (wd + 1) (B ++ Bts.low k size ++ Bts.low c (Lz.grow c L size)) (by omega) (by omega)
          rw [Lz.pk_full ha hb (by omega) h2]
          rw [List.length_append, List.length_append, Bts.low_length, Bts.low_length] at this
          omega
        · have := ih (a + m) (L ++ [s.extract a (a + m + 1)]) (Lz.grow c L size) (B ++ Bts.low k size) hg (by omega)
          rw [Lz.pk_more ha hb (by omega) h2]
          rw [List.length_append, Bts.low_length] at this
          omega
    · rw [Lz.pk_none (by omega), List.length_append, Bts.low_length]; omega
/-- a packed text, and what stands behind it -/
theorem twice_law (wd : Nat) (s : ByteArray) (l m : List UInt8) (h2 : 2 ≤ wd) (h8 : wd ≤ 8) (hgood : ∀ j, j < s.size → (s.data.toList.getD j 0).toNat < 2 ^ wd)
    (h1 : l.length = ((Lz.pk (2 ^ wd) wd s [] (wd + 1) 0 (Bts.low (2 ^ wd) (wd + 1))).length + 7) / 8) (hn : Crc.num l = Bts.val (Lz.pk (2 ^ wd) wd s [] (wd + 1) 0 (Bts.low (2 ^ wd) (wd + 1)))) :
    Lz.unl (Crc.num (l ++ m)) (8 * (l ++ m).length) (2 ^ wd) wd s.size [] (wd + 1) ByteArray.empty [] 0 = .ok s.data.toList l.length := by
  rw [Lz.welch wd s.size s (Crc.num (l ++ m)) (Crc.num m) (8 * l.length) (8 * (l ++ m).length) h2 h8 hgood (Nat.le_refl _) (by rw [num_cat, hn]) (by omega) (by rw [List.length_append]; omega), ← h1]
set_option linter.unusedSimpArgs false in
set_option maxHeartbeats 4000000 in
theorem twice_out (a : ByteArray) (times step wd : Int) (w : World) (hs : a.size ≤ maxLen) (h : (a.size < 1 ∨ 60 < a.size) ∨ (times < 1 ∨ 400 < times) ∨ (wd < 2 ∨ 8 < wd)) :
    Calls Tryd.prog 3 #[.string a, .int .i64 times, .int .i64 step, .int .i64 wd] w fun e w' => e = .returned (.bool true) ∧ Ext w w' := by
  unfold maxLen at hs
  by_cases h0 : a.size < 1
  · have i0 : (a.size : Int) < 1 := by omega
    clear h
    go_enter Tryd.func3, Tryd.ntmps3
    go_wp2_with fail
    refine (end_any _).mono ?_
    rintro e w1 ⟨rfl, h9⟩
    have X1 := Lib.hid (h9)
    clear h9
    go_wp2_with fail
    go_ret
    exact ⟨rfl, X1.out⟩
  · have j0 : ¬ (a.size : Int) < 1 := by omega
    by_cases h1 : 60 < a.size
    · have i1 : (60 : Int) < (a.size : Int) := by omega
      clear h
      go_enter Tryd.func3, Tryd.ntmps3
      go_wp2_with fail
      refine (end_any _).mono ?_
      rintro e w1 ⟨rfl, h9⟩
      have X1 := Lib.hid (h9)
      clear h9
      go_wp2_with fail
      go_ret
      exact ⟨rfl, X1.out⟩
    · have j1 : ¬ (60 : Int) < (a.size : Int) := by omega
      by_cases h2 : times < 1
      · skip
        clear h
        go_enter Tryd.func3, Tryd.ntmps3
        go_wp2_with fail
        refine (end_any _).mono ?_
        rintro e w1 ⟨rfl, h9⟩
        have X1 := Lib.hid (h9)
        clear h9
        go_wp2_with fail
        go_ret
        exact ⟨rfl, X1.out⟩
      · skip
        by_cases h3 : 400 < times
        · skip
          clear h
          go_enter Tryd.func3, Tryd.ntmps3
          go_wp2_with fail
          refine (end_any _).mono ?_
          rintro e w1 ⟨rfl, h9⟩
          have X1 := Lib.hid (h9)
          clear h9
          go_wp2_with fail
          go_ret
          exact ⟨rfl, X1.out⟩
        · skip
          by_cases h4 : wd < 2
          · skip
            clear h
            go_enter Tryd.func3, Tryd.ntmps3
            go_wp2_with fail
            refine (end_any _).mono ?_
            rintro e w1 ⟨rfl, h9⟩
            have X1 := Lib.hid (h9)
            clear h9
            go_wp2_with fail
            go_ret
            exact ⟨rfl, X1.out⟩
          · skip
            have h5 : 8 < wd := by omega
            clear h
            go_enter Tryd.func3, Tryd.ntmps3
            go_wp2_with fail
            refine (end_any _).mono ?_
            rintro e w1 ⟨rfl, h9⟩
            have X1 := Lib.hid (h9)
            clear h9
            go_wp2_with fail
            go_ret
            exact ⟨rfl, X1.out⟩
set_option linter.unusedSimpArgs false in
set_option maxHeartbeats 4000000 in
theorem twice_in (a : ByteArray) (T wd : Nat) (step : Int) (w : World) (E : Nat → Addr) (hE : Er2 w E) (hs1 : 1 ≤ a.size) (hs2 : a.size ≤ 60) (ht1 : 1 ≤ T) (ht2 : T ≤ 400) (h2 : 2 ≤ wd) (h8 : wd ≤ 8) (_hst1 : -9223372036854775808 ≤ step) (_hst2 : step ≤ 9223372036854775807) :
    Calls Tryd.prog 3 #[.string a, .int .i64 (T : Int), .int .i64 step, .int .i64 (wd : Int)] w fun e w' => e = .returned (.bool true) ∧ Ext w w' := by
  obtain ⟨i0, hi0, hz0, hz1, hz2⟩ := info_parts u8inf
  have HE := Lib.hid hE
  obtain ⟨c, hc⟩ : ∃ c : Nat, 2 ^ wd = c := ⟨_, rfl⟩
  obtain ⟨hcl, hch⟩ := pow_bds hc h2 h8
  have hcI := pow_int hc
  have HC := Lib.hid hc
  clear hc hE
  obtain ⟨M, hM⟩ : ∃ M, a.size * T = M := ⟨_, rfl⟩
  have hMl : M ≤ 24000 := by rw [← hM]; exact Nat.mul_le_mul hs2 ht2
  have hMI : (a.size : Int) * (T : Int) = (M : Int) := by rw [← hM]; simp
  have HM := Lib.hid hM
  clear hM
  obtain ⟨r, hr⟩ : ∃ r, step.tmod 1000 = r := ⟨_, rfl⟩
  have hrl : -999 ≤ r ∧ r ≤ 999 := by rw [← hr]; have h1 := Int.tmod_lt_of_pos step (b := 1000) (by decide); have h2 := Int.lt_tmod_of_pos step (b := 1000) (by decide); omega
  obtain ⟨hr1, hr2⟩ := hrl
  have j0 : ¬ (a.size : Int) < 1 := by omega
  have j1 : ¬ (60 : Int) < (a.size : Int) := by omega
  have j2 : ¬ (T : Int) < 1 := by omega
  have j3 : ¬ 400 < (T : Int) := by omega
  have j4 : ¬ (wd : Int) < 2 := by omega
  have j5 : ¬ 8 < (wd : Int) := by omega
  skip
  go_enter Tryd.func3, Tryd.ntmps3
  go_wp2_with fail
  refine (end_any _).mono ?_
  rintro e w1 ⟨rfl, h9⟩
  have X1 := Lib.hid (h9)
  clear h9
  obtain ⟨w2, hmk, hown, hgrow⟩ := run_make_own (P := Tryd.prog) w1 w.heap.size 23 5 i0 (.int .u8 0) 1 Tryd.underlying23 hi0 hz0 hz1 .i64 .i64 M (by rw [hz2]; omega) (by unfold maxLen; omega) X1.out.size
  have HO := Lib.hid hown
  have HG : Hid (Ext w w2) := Lib.hid (Below.trans X1.out ((Keeps.grown hgrow).below X1.out.size (fun k hk e => by cases e)))
  clear hown hgrow
  go_wp2_with fail
  clear hmk
  go_loopw [10, 11, 12] (fun b n i wr => ∃ (j : Nat) (y : Int) (out : List UInt8), j ≤ T ∧ i = .int .i64 (j : Int) ∧ 0 ≤ y ∧ y ≤ 65535 ∧ n = .int .i64 y ∧ Hid (wr.ownsRow w.heap.size 5 1 b (out).length (bytesV (out))) ∧ Hid (Ext w wr) ∧ Hid (∀ x ∈ out, x.toNat < c) ∧ Hid (out.length = j * a.size)) (fun _ _ i _ => T - (intOf i).toNat)
  case atStart => exact ⟨0, 0, [], by omega, rfl, by omega, by omega, rfl, HO, HG, Lib.hid (by simp), Lib.hid (by simp)⟩
  case round =>
    clear HO HG
    obtain ⟨j, y, out, hj, rfl, hy0, hy1, rfl, HO, HX, HB, HL⟩ := hrel
    by_cases hlt : j < T
    · go_wp2_with fail
      go_loopw [10, 11, 13] (fun b n i wr => ∃ (k : Nat) (y : Int) (out : List UInt8), k ≤ a.size ∧ i = .int .i64 (k : Int) ∧ 0 ≤ y ∧ y ≤ 65535 ∧ n = .int .i64 y ∧ Hid (wr.ownsRow w.heap.size 5 1 b (out).length (bytesV (out))) ∧ Hid (Ext w wr) ∧ Hid (∀ x ∈ out, x.toNat < c) ∧ Hid (out.length = j * a.size + k)) (fun _ _ i _ => a.size - (intOf i).toNat)
      case atStart => exact ⟨0, y, out, by omega, rfl, hy0, hy1, rfl, HO, HX, HB, HL⟩
      case round =>
        clear HO HX HB HL hy0 hy1
        obtain ⟨k, y, out, hk, rfl, hy0, hy1, rfl, HO, HX, HB, HL⟩ := hrel
        by_cases hlk : k < a.size
        · obtain ⟨x, hx⟩ : ∃ x, a[k].toNat = x := ⟨_, rfl⟩
          have hxI : ((a[k].toNat : Nat) : Int) = (x : Int) := by rw [hx]
          have hx256 : x < 256 := by rw [← hx]; exact UInt8.toNat_lt _
          clear hx
          obtain ⟨xo, co, rfl⟩ := lit_row HO.out
          obtain ⟨Q, hQ⟩ : ∃ Q, out.length = Q := ⟨_, rfl⟩
          have HQ := Lib.hid hQ
          have hjt : j * a.size ≤ 400 * 60 := Nat.mul_le_mul (by omega) hs2
          have hQl : Q ≤ 24060 := by have := HL.out; omega
          rw [hQ] at HO ⊢
          clear hQ hjt
          obtain ⟨S, hS⟩ : ∃ S, y * 5 + r + 7 + (x : Int) = S := ⟨_, rfl⟩
          have hS1 : -1000 ≤ S := by omega
          have hS2 : S ≤ 400000 := by omega
          by_cases hsg : 0 ≤ S
          · obtain ⟨y2, hy2⟩ : ∃ y2 : Nat, S % 65536 = (y2 : Int) := ⟨(S % 65536).toNat, by omega⟩
            have hy3 : y2 ≤ 65535 := by omega
            obtain ⟨q, hq⟩ : ∃ q, y2 / 16 = q := ⟨_, rfl⟩
            have hql : q ≤ 4095 := by omega
            have hqd : ((y2 : Nat) : Int).tdiv 16 = (q : Int) := by rw [Int.tdiv_eq_ediv_of_nonneg (by omega)]; omega
            obtain ⟨z, hz⟩ : ∃ z, (q + x) % c = z := ⟨_, rfl⟩
            have hzc : z < c := by rw [← hz]; exact Nat.mod_lt _ (by omega)
            have hzd : ((q : Int) + (x : Int)).tmod (c : Int) = (z : Int) := by rw [Int.tmod_eq_emod_of_nonneg (by omega), ← hz]; simp
            have hw1 := wrap_i (x := (q : Int)) (by omega) (by omega)
            have hw2 := wrap_i (x := (q : Int) + (x : Int)) (by omega) (by omega)
            have hw3 := wrap_i (x := (c : Int)) (by omega) (by omega)
            have hw4 := wrap_i (x := (z : Int)) (by omega) (by omega)
            have hw5 : IntKind.u8.wrap (z : Int) = (z : Int) := by unfold IntKind.wrap; simp [IntKind.bits, IntKind.signed]; omega
            have hw0 := wrap_i (x := (x : Int)) (by omega) (by omega)
            have hc00 : ¬ c = 0 := by omega
            clear hq hz
            have hki : (k : Int) < (a.size : Int) := by omega
            go_wp2_with fail
            have X_0 := Lib.hid (HX.out)
            have Y_0 := Lib.hid (Ext.refl wr)
            refine wp_region_held_drew (S := fun w' => True) (by kernel_rfl) trivial (fun hHeld => ?_)
            clear hHeld
            refine anyH_world (fun wz => Ext wr wz) (show Ext wr wr.drew from Below.drew (Ext.refl wr)) ?_
            rintro w1 h
            have X_1 := Lib.hid (X_0.out.trans h)
            have Y_1 := Lib.hid (Y_0.out.trans h)
            clear h X_0 Y_0
            have hHeld : True := trivial
            refine wpAnyH_take (i := 0) (v := ?_) rfl (by kernel_rfl) (by kernel_rfl) (by kernel_rfl) (fun _ _ _ h => h) (Or.inl ⟨by kernel_rfl, ?_⟩) hHeld ?_
            rotate_left
            · intro w hSw
              (try dsimp only at hSw)
              go_split_ands
              go_simp
              (try with_reducible rfl)
            try simp only [Act.put, List.getElem_toArray, List.getElem_cons_succ, List.getElem_cons_zero, List.setIfInBounds_toArray, List.set_cons_zero, List.set_cons_succ]
            refine wpAnyH_take (i := 1) (v := ?_) rfl (by kernel_rfl) (by kernel_rfl) (by kernel_rfl) (fun _ _ _ h => h) (Or.inl ⟨by kernel_rfl, ?_⟩) hHeld ?_
            rotate_left
            · intro w hSw
              (try dsimp only at hSw)
              go_split_ands
              go_simp
              (try with_reducible rfl)
            try simp only [Act.put, List.getElem_toArray, List.getElem_cons_succ, List.getElem_cons_zero, List.setIfInBounds_toArray, List.set_cons_zero, List.set_cons_succ]
            refine wpAnyH_take (i := 2) (v := ?_) rfl (by kernel_rfl) (by kernel_rfl) (by kernel_rfl) (fun _ _ _ h => h) (Or.inl ⟨by kernel_rfl, ?_⟩) hHeld ?_
            rotate_left
            · intro w hSw
              (try dsimp only at hSw)
              go_split_ands
              go_simp
              (try with_reducible rfl)
            try simp only [Act.put, List.getElem_toArray, List.getElem_cons_succ, List.getElem_cons_zero, List.setIfInBounds_toArray, List.set_cons_zero, List.set_cons_succ]
            refine wpAnyH_take (i := 3) (v := ?_) rfl (by kernel_rfl) (by kernel_rfl) (by kernel_rfl) (fun _ _ _ h => h) (Or.inl ⟨by kernel_rfl, ?_⟩) hHeld ?_
            rotate_left
            · intro w hSw
              (try dsimp only at hSw)
              go_split_ands
              go_simp
              (try with_reducible rfl)
            try simp only [Act.put, List.getElem_toArray, List.getElem_cons_succ, List.getElem_cons_zero, List.setIfInBounds_toArray, List.set_cons_zero, List.set_cons_succ]
            refine wpAnyH_take (i := 4) (v := ?_) rfl (by kernel_rfl) (by kernel_rfl) (by kernel_rfl) (fun _ _ _ h => h) (Or.inl ⟨by kernel_rfl, ?_⟩) hHeld ?_
            rotate_left
            · intro w hSw
              (try dsimp only at hSw)
              go_split_ands
              go_simp
              (try with_reducible rfl)
            try simp only [Act.put, List.getElem_toArray, List.getElem_cons_succ, List.getElem_cons_zero, List.setIfInBounds_toArray, List.set_cons_zero, List.set_cons_succ]
            refine wpAnyH_take (i := 5) (v := ?_) rfl (by kernel_rfl) (by kernel_rfl) (by kernel_rfl) (fun _ _ _ h => h) (Or.inl ⟨by kernel_rfl, ?_⟩) hHeld ?_
            rotate_left
            · intro w hSw
              (try dsimp only at hSw)
              go_split_ands
              go_simp
              (try with_reducible rfl)
            try simp only [Act.put, List.getElem_toArray, List.getElem_cons_succ, List.getElem_cons_zero, List.setIfInBounds_toArray, List.set_cons_zero, List.set_cons_succ]
            refine wpAnyH_take (i := 6) (v := ?_) rfl (by kernel_rfl) (by kernel_rfl) (by kernel_rfl) (fun _ _ _ h => h) (Or.inl ⟨by kernel_rfl, ?_⟩) hHeld ?_
            rotate_left
            · intro w hSw
              (try dsimp only at hSw)
              go_split_ands
              go_simp
              (try with_reducible rfl)
            try simp only [Act.put, List.getElem_toArray, List.getElem_cons_succ, List.getElem_cons_zero, List.setIfInBounds_toArray, List.set_cons_zero, List.set_cons_succ]
            refine wpAnyH_take (i := 7) (v := ?_) rfl (by kernel_rfl) (by kernel_rfl) (by kernel_rfl) (fun _ _ _ h => h) (Or.inl ⟨by kernel_rfl, ?_⟩) hHeld ?_
            rotate_left
            · intro w hSw
              (try dsimp only at hSw)
              go_split_ands
              go_simp
              (try with_reducible rfl)
            try simp only [Act.put, List.getElem_toArray, List.getElem_cons_succ, List.getElem_cons_zero, List.setIfInBounds_toArray, List.set_cons_zero, List.set_cons_succ]
            refine wpAnyH_take (i := 8) (v := ?_) rfl (by kernel_rfl) (by kernel_rfl) (by kernel_rfl) (fun _ _ _ h => h) (Or.inl ⟨by kernel_rfl, ?_⟩) hHeld ?_
            rotate_left
            · intro w hSw
              (try dsimp only at hSw)
              go_split_ands
              go_simp
              (try with_reducible rfl)
            try simp only [Act.put, List.getElem_toArray, List.getElem_cons_succ, List.getElem_cons_zero, List.setIfInBounds_toArray, List.set_cons_zero, List.set_cons_succ]
            refine wpAnyH_take (i := 9) (v := ?_) rfl (by kernel_rfl) (by kernel_rfl) (by kernel_rfl) (fun _ _ _ h => h) (Or.inl ⟨by kernel_rfl, ?_⟩) hHeld ?_
            rotate_left
            · intro w hSw
              (try dsimp only at hSw)
              go_split_ands
              go_simp
              (try with_reducible rfl)
            try simp only [Act.put, List.getElem_toArray, List.getElem_cons_succ, List.getElem_cons_zero, List.setIfInBounds_toArray, List.set_cons_zero, List.set_cons_succ]
            refine wpAnyH_take (i := 10) (v := ?_) rfl (by kernel_rfl) (by kernel_rfl) (by kernel_rfl) (fun _ _ _ h => h) (Or.inl ⟨by kernel_rfl, ?_⟩) hHeld ?_
            rotate_left
            · intro w hSw
              (try dsimp only at hSw)
              go_split_ands
              go_simp
              (try with_reducible rfl)
            try simp only [Act.put, List.getElem_toArray, List.getElem_cons_succ, List.getElem_cons_zero, List.setIfInBounds_toArray, List.set_cons_zero, List.set_cons_succ]
            refine wpAnyH_take (i := 11) (v := ?_) rfl (by kernel_rfl) (by kernel_rfl) (by kernel_rfl) (fun _ _ _ h => h) (Or.inl ⟨by kernel_rfl, ?_⟩) hHeld ?_
            rotate_left
            · intro w hSw
              (try dsimp only at hSw)
              go_split_ands
              go_simp
              (try with_reducible rfl)
            try simp only [Act.put, List.getElem_toArray, List.getElem_cons_succ, List.getElem_cons_zero, List.setIfInBounds_toArray, List.set_cons_zero, List.set_cons_succ]
            refine wpAnyH_ready (rs := [12]) (by kernel_rfl) (by simp) ?_
            refine AllReadyH.cons rfl (fun KK hK => ?_) AllReadyH.nil
            clear hHeld
            go_simp
            refine hK.out _ _ trivial (fun hHeld => ?_)
            clear hK KK hHeld
            try simp only [Act.put, List.getElem_toArray, List.getElem_cons_succ, List.getElem_cons_zero, List.setIfInBounds_toArray, List.set_cons_zero, List.set_cons_succ]
            refine anyH_world (fun wz => Ext w1 wz ∧ Bk wz w1.heap.size #[.int .u8 (z : Int)]) ⟨Ext.alloc (Ext.refl _) _, Bk.at rfl⟩ ?_
            rintro w2 ⟨h, hB⟩
            have X_2 := Lib.hid (X_1.out.trans h)
            have Y_2 := Lib.hid (Y_1.out.trans h)
            clear h X_1 Y_1
            have T1_2 := Lib.hid (hB)
            clear hB
            have hHeld : True := trivial
            refine wpAnyH_ready (rs := [13]) (by kernel_rfl) (by simp) ?_
            refine AllReadyH.cons rfl (fun KK hK => ?_) AllReadyH.nil
            clear hHeld
            have HR := Lib.hid (ownsRow_kept HO.out (Y_2.out.keeps (S := fun _ => False)) (fun _ _ q => q))
            have hzz := X_2.out.size
            refine step_append_lies _ rfl (.tmp 80) (.tmp 92) 23 rfl w.heap.size 5 i0 (.int .u8 0) 1 1 Tryd.underlying23 hi0 hz0 hz1 hz2 rfl (by decide) (.slice xo Q co) Q (bytesV out) (by simp [Act.eval]) HR.out ⟨w1.heap.size, 0, none⟩ 1 1 [.int .u8 (z : Int)] (by simp [Act.eval]) rfl (fun j u hu => ?c1) (by intro u hu; simp at hu; subst hu; rfl) (by omega) (by unfold maxLen; omega) (by omega) hzz _ rfl ?_
            case c1 =>
              obtain rfl : j = 0 := by have := (List.getElem?_eq_some_iff.1 hu).1; simpa using this
              rw [add_plain, T1_2.out.cell 0]; exact hu
            intro g1 cap1 w4 hown1 hgrow1 hat1 hlt1
            have P := grow_one (y := UInt8.ofNat z) X_2.out HR.out hgrow1 (by rw [UInt8.toNat_ofNat', Nat.mod_eq_of_lt (by omega)]; exact hown1)
            have P1 : Hid (w4.ownsRow w.heap.size 5 1 (.slice (some ⟨g1, 0, none⟩) (Q + 1) cap1) (out ++ [UInt8.ofNat z]).length (bytesV (out ++ [UInt8.ofNat z]))) := Lib.hid (by rw [List.length_append, HQ.out]; exact P.1)
            have P2 := Lib.hid P.2
            clear P hown1 hgrow1 hat1 hlt1 HR hzz
            refine hK.out _ _ trivial (fun hHeld => ?_)
            clear hK KK
            try simp only [Act.put, List.getElem_toArray, List.getElem_cons_succ, List.getElem_cons_zero, List.setIfInBounds_toArray, List.set_cons_zero, List.set_cons_succ]
            refine wpAnyH_take (i := 14) (v := ?_) rfl (by kernel_rfl) (by kernel_rfl) (by kernel_rfl) (fun _ _ _ h => h) (Or.inl ⟨by kernel_rfl, ?_⟩) hHeld ?_
            rotate_left
            · intro w hSw
              (try dsimp only at hSw)
              go_split_ands
              go_simp
              (try with_reducible rfl)
            try simp only [Act.put, List.getElem_toArray, List.getElem_cons_succ, List.getElem_cons_zero, List.setIfInBounds_toArray, List.set_cons_zero, List.set_cons_succ]
            refine wpAnyH_done (by kernel_rfl) ?_ _
            clear hHeld
            have HB2 : Hid (∀ v ∈ out ++ [UInt8.ofNat z], v.toNat < c) := Lib.hid (fun v hv => by
              rcases List.mem_append.1 hv with hv | hv
              · exact HB.out v hv
              · rw [List.mem_singleton.1 hv, UInt8.toNat_ofNat']; omega)
            go_wp2_with fail
            go_roundw
            case rel => exact ⟨k + 1, (y2 : Int), out ++ [UInt8.ofNat z], by omega, by go_num, by omega, by omega, rfl, P1, P2, HB2, Lib.hid (by rw [List.length_append, List.length_singleton, HL.out]; omega)⟩
            case measure => simp [intOf]; omega
          · have htm : S.tmod 65536 = S := by rw [← Int.neg_neg S, Int.neg_tmod, Int.tmod_eq_emod_of_nonneg (by omega), Int.emod_eq_of_lt (by omega) (by omega)]
            obtain ⟨y2, hy2⟩ : ∃ y2 : Nat, S + 65536 = (y2 : Int) := ⟨(S + 65536).toNat, by omega⟩
            have hy3 : y2 ≤ 65535 := by omega
            obtain ⟨q, hq⟩ : ∃ q, y2 / 16 = q := ⟨_, rfl⟩
            have hql : q ≤ 4095 := by omega
            have hqd : ((y2 : Nat) : Int).tdiv 16 = (q : Int) := by rw [Int.tdiv_eq_ediv_of_nonneg (by omega)]; omega
            obtain ⟨z, hz⟩ : ∃ z, (q + x) % c = z := ⟨_, rfl⟩
            have hzc : z < c := by rw [← hz]; exact Nat.mod_lt _ (by omega)
            have hzd : ((q : Int) + (x : Int)).tmod (c : Int) = (z : Int) := by rw [Int.tmod_eq_emod_of_nonneg (by omega), ← hz]; simp
            have hw1 := wrap_i (x := (q : Int)) (by omega) (by omega)
            have hw2 := wrap_i (x := (q : Int) + (x : Int)) (by omega) (by omega)
            have hw3 := wrap_i (x := (c : Int)) (by omega) (by omega)
            have hw4 := wrap_i (x := (z : Int)) (by omega) (by omega)
            have hw5 : IntKind.u8.wrap (z : Int) = (z : Int) := by unfold IntKind.wrap; simp [IntKind.bits, IntKind.signed]; omega
            have hw0 := wrap_i (x := (x : Int)) (by omega) (by omega)
            have hc00 : ¬ c = 0 := by omega
            clear hq hz
            have hki : (k : Int) < (a.size : Int) := by omega
            go_wp2_with fail
            have X_0 := Lib.hid (HX.out)
            have Y_0 := Lib.hid (Ext.refl wr)
            refine wp_region_held_drew (S := fun w' => True) (by kernel_rfl) trivial (fun hHeld => ?_)
            clear hHeld
            refine anyH_world (fun wz => Ext wr wz) (show Ext wr wr.drew from Below.drew (Ext.refl wr)) ?_
            rintro w1 h
            have X_1 := Lib.hid (X_0.out.trans h)
            have Y_1 := Lib.hid (Y_0.out.trans h)
            clear h X_0 Y_0
            have hHeld : True := trivial
            refine wpAnyH_take (i := 0) (v := ?_) rfl (by kernel_rfl) (by kernel_rfl) (by kernel_rfl) (fun _ _ _ h => h) (Or.inl ⟨by kernel_rfl, ?_⟩) hHeld ?_
            rotate_left
            · intro w hSw
              (try dsimp only at hSw)
              go_split_ands
              go_simp
              (try with_reducible rfl)
            try simp only [Act.put, List.getElem_toArray, List.getElem_cons_succ, List.getElem_cons_zero, List.setIfInBounds_toArray, List.set_cons_zero, List.set_cons_succ]
            refine wpAnyH_take (i := 1) (v := ?_) rfl (by kernel_rfl) (by kernel_rfl) (by kernel_rfl) (fun _ _ _ h => h) (Or.inl ⟨by kernel_rfl, ?_⟩) hHeld ?_
            rotate_left
            · intro w hSw
              (try dsimp only at hSw)
              go_split_ands
              go_simp
              (try with_reducible rfl)
            try simp only [Act.put, List.getElem_toArray, List.getElem_cons_succ, List.getElem_cons_zero, List.setIfInBounds_toArray, List.set_cons_zero, List.set_cons_succ]
            refine wpAnyH_take (i := 2) (v := ?_) rfl (by kernel_rfl) (by kernel_rfl) (by kernel_rfl) (fun _ _ _ h => h) (Or.inl ⟨by kernel_rfl, ?_⟩) hHeld ?_
            rotate_left
            · intro w hSw
              (try dsimp only at hSw)
              go_split_ands
              go_simp
              (try with_reducible rfl)
            try simp only [Act.put, List.getElem_toArray, List.getElem_cons_succ, List.getElem_cons_zero, List.setIfInBounds_toArray, List.set_cons_zero, List.set_cons_succ]
            refine wpAnyH_take (i := 3) (v := ?_) rfl (by kernel_rfl) (by kernel_rfl) (by kernel_rfl) (fun _ _ _ h => h) (Or.inl ⟨by kernel_rfl, ?_⟩) hHeld ?_
            rotate_left
            · intro w hSw
              (try dsimp only at hSw)
              go_split_ands
              go_simp
              (try with_reducible rfl)
            try simp only [Act.put, List.getElem_toArray, List.getElem_cons_succ, List.getElem_cons_zero, List.setIfInBounds_toArray, List.set_cons_zero, List.set_cons_succ]
            refine wpAnyH_take (i := 4) (v := ?_) rfl (by kernel_rfl) (by kernel_rfl) (by kernel_rfl) (fun _ _ _ h => h) (Or.inl ⟨by kernel_rfl, ?_⟩) hHeld ?_
            rotate_left
            · intro w hSw
              (try dsimp only at hSw)
              go_split_ands
              go_simp
              (try with_reducible rfl)
            try simp only [Act.put, List.getElem_toArray, List.getElem_cons_succ, List.getElem_cons_zero, List.setIfInBounds_toArray, List.set_cons_zero, List.set_cons_succ]
            refine wpAnyH_take (i := 5) (v := ?_) rfl (by kernel_rfl) (by kernel_rfl) (by kernel_rfl) (fun _ _ _ h => h) (Or.inl ⟨by kernel_rfl, ?_⟩) hHeld ?_
            rotate_left
            · intro w hSw
              (try dsimp only at hSw)
              go_split_ands
              go_simp
              (try with_reducible rfl)
            try simp only [Act.put, List.getElem_toArray, List.getElem_cons_succ, List.getElem_cons_zero, List.setIfInBounds_toArray, List.set_cons_zero, List.set_cons_succ]
            refine wpAnyH_take (i := 6) (v := ?_) rfl (by kernel_rfl) (by kernel_rfl) (by kernel_rfl) (fun _ _ _ h => h) (Or.inl ⟨by kernel_rfl, ?_⟩) hHeld ?_
            rotate_left
            · intro w hSw
              (try dsimp only at hSw)
              go_split_ands
              go_simp
              (try with_reducible rfl)
            try simp only [Act.put, List.getElem_toArray, List.getElem_cons_succ, List.getElem_cons_zero, List.setIfInBounds_toArray, List.set_cons_zero, List.set_cons_succ]
            refine wpAnyH_take (i := 7) (v := ?_) rfl (by kernel_rfl) (by kernel_rfl) (by kernel_rfl) (fun _ _ _ h => h) (Or.inl ⟨by kernel_rfl, ?_⟩) hHeld ?_
            rotate_left
            · intro w hSw
              (try dsimp only at hSw)
              go_split_ands
              go_simp
              (try with_reducible rfl)
            try simp only [Act.put, List.getElem_toArray, List.getElem_cons_succ, List.getElem_cons_zero, List.setIfInBounds_toArray, List.set_cons_zero, List.set_cons_succ]
            refine wpAnyH_take (i := 8) (v := ?_) rfl (by kernel_rfl) (by kernel_rfl) (by kernel_rfl) (fun _ _ _ h => h) (Or.inl ⟨by kernel_rfl, ?_⟩) hHeld ?_
            rotate_left
            · intro w hSw
              (try dsimp only at hSw)
              go_split_ands
              go_simp
              (try with_reducible rfl)
            try simp only [Act.put, List.getElem_toArray, List.getElem_cons_succ, List.getElem_cons_zero, List.setIfInBounds_toArray, List.set_cons_zero, List.set_cons_succ]
            refine wpAnyH_take (i := 9) (v := ?_) rfl (by kernel_rfl) (by kernel_rfl) (by kernel_rfl) (fun _ _ _ h => h) (Or.inl ⟨by kernel_rfl, ?_⟩) hHeld ?_
            rotate_left
            · intro w hSw
              (try dsimp only at hSw)
              go_split_ands
              go_simp
              (try with_reducible rfl)
            try simp only [Act.put, List.getElem_toArray, List.getElem_cons_succ, List.getElem_cons_zero, List.setIfInBounds_toArray, List.set_cons_zero, List.set_cons_succ]
            refine wpAnyH_take (i := 10) (v := ?_) rfl (by kernel_rfl) (by kernel_rfl) (by kernel_rfl) (fun _ _ _ h => h) (Or.inl ⟨by kernel_rfl, ?_⟩) hHeld ?_
            rotate_left
            · intro w hSw
              (try dsimp only at hSw)
              go_split_ands
              go_simp
              (try with_reducible rfl)
            try simp only [Act.put, List.getElem_toArray, List.getElem_cons_succ, List.getElem_cons_zero, List.setIfInBounds_toArray, List.set_cons_zero, List.set_cons_succ]
            refine wpAnyH_take (i := 11) (v := ?_) rfl (by kernel_rfl) (by kernel_rfl) (by kernel_rfl) (fun _ _ _ h => h) (Or.inl ⟨by kernel_rfl, ?_⟩) hHeld ?_
            rotate_left
            · intro w hSw
              (try dsimp only at hSw)
              go_split_ands
              go_simp
              (try with_reducible rfl)
            try simp only [Act.put, List.getElem_toArray, List.getElem_cons_succ, List.getElem_cons_zero, List.setIfInBounds_toArray, List.set_cons_zero, List.set_cons_succ]
            refine wpAnyH_ready (rs := [12]) (by kernel_rfl) (by simp) ?_
            refine AllReadyH.cons rfl (fun KK hK => ?_) AllReadyH.nil
            clear hHeld
            go_simp
            refine hK.out _ _ trivial (fun hHeld => ?_)
            clear hK KK hHeld
            try simp only [Act.put, List.getElem_toArray, List.getElem_cons_succ, List.getElem_cons_zero, List.setIfInBounds_toArray, List.set_cons_zero, List.set_cons_succ]
            refine anyH_world (fun wz => Ext w1 wz ∧ Bk wz w1.heap.size #[.int .u8 (z : Int)]) ⟨Ext.alloc (Ext.refl _) _, Bk.at rfl⟩ ?_
            rintro w2 ⟨h, hB⟩
            have X_2 := Lib.hid (X_1.out.trans h)
            have Y_2 := Lib.hid (Y_1.out.trans h)
            clear h X_1 Y_1
            have T1_2 := Lib.hid (hB)
            clear hB
            have hHeld : True := trivial
            refine wpAnyH_ready (rs := [13]) (by kernel_rfl) (by simp) ?_
            refine AllReadyH.cons rfl (fun KK hK => ?_) AllReadyH.nil
            clear hHeld
            have HR := Lib.hid (ownsRow_kept HO.out (Y_2.out.keeps (S := fun _ => False)) (fun _ _ q => q))
            have hzz := X_2.out.size
            refine step_append_lies _ rfl (.tmp 80) (.tmp 92) 23 rfl w.heap.size 5 i0 (.int .u8 0) 1 1 Tryd.underlying23 hi0 hz0 hz1 hz2 rfl (by decide) (.slice xo Q co) Q (bytesV out) (by simp [Act.eval]) HR.out ⟨w1.heap.size, 0, none⟩ 1 1 [.int .u8 (z : Int)] (by simp [Act.eval]) rfl (fun j u hu => ?c1) (by intro u hu; simp at hu; subst hu; rfl) (by omega) (by unfold maxLen; omega) (by omega) hzz _ rfl ?_
            case c1 =>
              obtain rfl : j = 0 := by have := (List.getElem?_eq_some_iff.1 hu).1; simpa using this
              rw [add_plain, T1_2.out.cell 0]; exact hu
            intro g1 cap1 w4 hown1 hgrow1 hat1 hlt1
            have P := grow_one (y := UInt8.ofNat z) X_2.out HR.out hgrow1 (by rw [UInt8.toNat_ofNat', Nat.mod_eq_of_lt (by omega)]; exact hown1)
            have P1 : Hid (w4.ownsRow w.heap.size 5 1 (.slice (some ⟨g1, 0, none⟩) (Q + 1) cap1) (out ++ [UInt8.ofNat z]).length (bytesV (out ++ [UInt8.ofNat z]))) := Lib.hid (by rw [List.length_append, HQ.out]; exact P.1)
            have P2 := Lib.hid P.2
            clear P hown1 hgrow1 hat1 hlt1 HR hzz
            refine hK.out _ _ trivial (fun hHeld => ?_)
            clear hK KK
            try simp only [Act.put, List.getElem_toArray, List.getElem_cons_succ, List.getElem_cons_zero, List.setIfInBounds_toArray, List.set_cons_zero, List.set_cons_succ]
            refine wpAnyH_take (i := 14) (v := ?_) rfl (by kernel_rfl) (by kernel_rfl) (by kernel_rfl) (fun _ _ _ h => h) (Or.inl ⟨by kernel_rfl, ?_⟩) hHeld ?_
            rotate_left
            · intro w hSw
              (try dsimp only at hSw)
              go_split_ands
              go_simp
              (try with_reducible rfl)
            try simp only [Act.put, List.getElem_toArray, List.getElem_cons_succ, List.getElem_cons_zero, List.setIfInBounds_toArray, List.set_cons_zero, List.set_cons_succ]
            refine wpAnyH_done (by kernel_rfl) ?_ _
            clear hHeld
            have HB2 : Hid (∀ v ∈ out ++ [UInt8.ofNat z], v.toNat < c) := Lib.hid (fun v hv => by
              rcases List.mem_append.1 hv with hv | hv
              · exact HB.out v hv
              · rw [List.mem_singleton.1 hv, UInt8.toNat_ofNat']; omega)
            go_wp2_with fail
            go_roundw
            case rel => exact ⟨k + 1, (y2 : Int), out ++ [UInt8.ofNat z], by omega, by go_num, by omega, by omega, rfl, P1, P2, HB2, Lib.hid (by rw [List.length_append, List.length_singleton, HL.out]; omega)⟩
            case measure => simp [intOf]; omega
        · obtain rfl : k = a.size := by omega
          go_wp2_with fail
          go_roundw
          case rel => exact ⟨j + 1, y, out, by omega, by go_num, hy0, hy1, rfl, HO, HX, HB, Lib.hid (by rw [HL.out, Nat.succ_mul])⟩
          case measure => simp [intOf]; omega
    · obtain rfl : j = T := by omega
      obtain ⟨Q, hQ⟩ : ∃ Q, out.length = Q := ⟨_, rfl⟩
      have HQ := Lib.hid hQ
      have hQl : Q = M := by have h1 := HL.out; have h3 := HM.out; rw [Nat.mul_comm] at h3; omega
      subst hQl
      rw [hQ] at HO
      clear hQ hMI
      obtain ⟨xo, co, rfl⟩ := lit_row HO.out
      have hcr := conv_row HQ.out HO.out
      obtain ⟨s, hsb⟩ : ∃ s, tb out = s := ⟨_, rfl⟩
      rw [hsb] at hcr
      have hsl : s.data.toList = out := by rw [← hsb, tb_list]
      have hss : s.size = Q := by rw [← list_size, hsl, HQ.out]
      have HS := Lib.hid hss
      have HGd : Hid (∀ j, j < s.size → (s.data.toList.getD j 0).toNat < 2 ^ wd) := Lib.hid (fun j hj => by
        rw [HC.out]
        refine HB.out _ ?_
        rw [hsl] at *
        have hl : j < out.length := by rw [HQ.out, ← HS.out]; exact hj
        rw [List.getD, List.getElem?_eq_getElem hl]
        exact List.getElem_mem hl)
      have HSL := Lib.hid hsl
      clear hsb hsl hss hcI
      go_wp2_with fail
      refine (pack_in s wd _ (by rw [HS.out]; omega) h2 h8 HGd.out).mono ?_
      rintro e w5 ⟨⟨l, hl1, hl2, rfl⟩, h5⟩
      have HL1 := Lib.hid hl1
      have HL2 := Lib.hid hl2
      have X5 := Lib.hid (HX.out.trans h5)
      have hpl := pk_len (2 ^ wd) wd s h8 _ 0 [] (wd + 1) (Bts.low (2 ^ wd) (wd + 1)) (by omega) (Nat.le_refl _)
      rw [Bts.low_length] at hpl
      have hll : l.length ≤ 80000 := by rw [hl1]; have := HS.out; omega
      have HO5 := Lib.hid (ownsRow_kept HO.out (h5.keeps (S := fun _ => False)) (fun _ _ q => q))
      have hcr5 := conv_row HQ.out HO5.out
      have htb : tb out = s := bts_ext (by rw [tb_list, HSL.out])
      rw [htb] at hcr5
      clear hl1 hl2 h5 hpl htb hcr
      obtain ⟨Tt, hTt⟩ : ∃ Tt : ByteArray, (⟨l.toArray⟩ : ByteArray) = Tt := ⟨_, rfl⟩
      have hTs : Tt.size = l.length := by rw [← hTt]; rfl
      have HTL : Hid (Tt.data.toList = l) := Lib.hid (by rw [← hTt])
      have HTS := Lib.hid hTs
      have hTsl : Tt.size ≤ 80000 := by omega
      rw [hTt]
      obtain ⟨R4, hR4⟩ : ∃ R4 : ByteArray, (⟨#[114, 101, 115, 116]⟩ : ByteArray) = R4 := ⟨_, rfl⟩
      have hR4s : R4.size = 4 := by rw [← hR4]; rfl
      have HR4 := Lib.hid hR4s
      have hov : ¬ 9223372036854775807 < Tt.size + 4 := by omega
      clear hTt hTs
      have HU : Hid (Lz.unl (Crc.num (Tt ++ R4).data.toList) (8 * (Tt ++ R4).size) (2 ^ wd) wd Q [] (wd + 1) ByteArray.empty [] 0 = .ok s.data.toList l.length) := Lib.hid (by
        have q := twice_law wd s l R4.data.toList h2 h8 HGd.out HL1.out HL2.out
        rw [bts_cat, HTL.out, ByteArray.size_append, HTS.out, ← HS.out]
        rw [List.length_append, list_size] at q
        exact q)
      have hTR : (Tt ++ R4).size ≤ 300000 := by rw [ByteArray.size_append, HR4.out]; omega
      have HTR := Lib.hid hTR
      clear hTR
      go_wp2_with fail
      clear hR4
      with_reducible refine (unpack_in (Tt ++ R4) wd Q _ E (HE.out.ext X5.out) HTR.out h2 h8 (by omega)).mono ?_
      rintro e w6 ⟨h6, he⟩
      rw [HU.out] at he
      simp only at he
      have htb2 : tb s.data.toList = s := bts_ext (by rw [tb_list])
      rw [htb2, ← HTS.out] at he
      have X6 := Lib.hid (X5.out.trans h6)
      have hcr6 := conv_row HQ.out (ownsRow_kept HO5.out (h6.keeps (S := fun _ => False)) (fun _ _ q => q))
      have htb : tb out = s := bts_ext (by rw [tb_list, HSL.out])
      rw [htb] at hcr6
      subst he
      clear h6 htb htb2 hcr5
      go_wp2_with fail
      go_ret
      exact ⟨rfl, X6.out⟩
theorem lzwTwice_any (a : ByteArray) (times step wd : Int) (w : World) (E : Nat → Addr) (hE : Er2 w E) (hs : a.size ≤ maxLen) (hst1 : -9223372036854775808 ≤ step) (hst2 : step ≤ 9223372036854775807) :
    Calls Tryd.prog 3 #[.string a, .int .i64 times, .int .i64 step, .int .i64 wd] w fun e w' => e = .returned (.bool true) ∧ Ext w w' := by
  by_cases h : (a.size < 1 ∨ 60 < a.size) ∨ (times < 1 ∨ 400 < times) ∨ (wd < 2 ∨ 8 < wd)
  · exact twice_out a times step wd w hs h
  · obtain ⟨t, rfl⟩ : ∃ t : Nat, times = t := ⟨times.toNat, by omega⟩
    obtain ⟨b, rfl⟩ : ∃ b : Nat, wd = b := ⟨wd.toNat, by omega⟩
    exact twice_in a t b step w E hE (by omega) (by omega) (by omega) (by omega) (by omega) (by omega) hst1 hst2
end Go.Proofs.YtdeiolagnheihaaDoor
