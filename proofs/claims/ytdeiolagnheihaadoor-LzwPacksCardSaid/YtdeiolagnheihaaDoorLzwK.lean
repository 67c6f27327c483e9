/- lzw.packer: code, clear, add. -/
import Derived.Test.YtdeiolagnheihaaDoorLzwB
import Derived.Test.YtdeiolagnheihaaDoorLzwC
import Derived.Deep.RegionHeld3
import Derived.RegionTactic
import Derived.Outline
import Derived.Deep.DeepCutAuto
namespace Go.Proofs.YtdeiolagnheihaaDoor
open Go.RowKit
set_option maxRecDepth 100000
theorem wrap_i {x : Int} (h0 : 0 ≤ x) (h1 : x ≤ 9000000000) : IntKind.i64.wrap x = x := by unfold IntKind.wrap; simp [IntKind.bits, IntKind.signed]; omega
theorem wrap_u32 {x : Int} (h0 : 0 ≤ x) (h1 : x ≤ 4294967295) : IntKind.u32.wrap x = x := by unfold IntKind.wrap; simp [IntKind.bits, IntKind.signed]; omega
theorem wrap32_u {x : Int} (h0 : 0 ≤ x) (h1 : x ≤ 4294967295) : x % 4294967296 = x := by omega
set_option linter.unusedSimpArgs false in
set_option maxHeartbeats 2000000 in
theorem pcode_any (B V n wd size next x : Nat) (v mv : Value) (w : World) (h : PB w B v V n (.int .i64 (wd : Int)) (.int .i64 (size : Int)) (.int .i64 (next : Int)) mv) (hs : size ≤ 12) (hx : x < 2 ^ size) (hn : n ≤ 100000000) :
    Calls Tryd.prog 41 #[.pointer (some ⟨B, 0, none⟩), .int .i64 (x : Int)] w fun e w' => e = .returned (.tuple #[]) ∧ ∃ v', PB w' B v' (V + x * 2 ^ n) (n + size) (.int .i64 (wd : Int)) (.int .i64 (size : Int)) (.int .i64 (next : Int)) mv ∧ PStep w w' B v v' (fun _ => False) := by
  have HP := Lib.hid h
  have HX := Lib.hid hx
  have hx32 : x < 4294967296 := Nat.lt_of_lt_of_le hx (Nat.le_trans (Nat.pow_le_pow_right (by decide) hs) (by decide))
  have hwu := wrap_u32 (x := (x : Int)) (by omega) (by omega)
  clear h hx
  go_enter Tryd.func41, Tryd.ntmps41
  go_wp2_with fail
  have P_0 := Lib.hid (HP.out)
  have X_0 := Lib.hid (Ext.refl w)
  refine wp_region_held_drew (S := fun w' => True) (by kernel_rfl) trivial (fun hHeld => ?_)
  clear hHeld
  refine anyH_world (fun wz => Ext w wz) (show Ext w w.drew from Below.drew (Ext.refl w)) ?_
  rintro w1 h
  have P_1 := Lib.hid (P_0.out.ext h)
  have X_1 := Lib.hid (X_0.out.trans h)
  clear h P_0 X_0
  have hHeld : True := trivial
  refine wpAnyH_take (i := 0) (v := ?_) rfl (by kernel_rfl) (by kernel_rfl) (by kernel_rfl) (fun _ _ _ h => h) (Or.inl ⟨by kernel_rfl, ?_⟩) hHeld ?_
  rotate_left
  · intro w hSw
    (try dsimp only at hSw)
    go_split_ands
    go_simp
    (try with_reducible rfl)
  try simp only [Act.put, List.getElem_toArray, List.getElem_cons_succ, List.getElem_cons_zero, List.setIfInBounds_toArray, List.set_cons_zero, List.set_cons_succ]
  refine wpAnyH_take (i := 1) (v := ?_) rfl (by kernel_rfl) (by kernel_rfl) (by kernel_rfl) (fun _ _ _ h => h) (Or.inl ⟨by kernel_rfl, ?_⟩) hHeld ?_
  rotate_left
  · intro w hSw
    (try dsimp only at hSw)
    go_split_ands
    go_simp
    (try with_reducible rfl)
  try simp only [Act.put, List.getElem_toArray, List.getElem_cons_succ, List.getElem_cons_zero, List.setIfInBounds_toArray, List.set_cons_zero, List.set_cons_succ]
  refine wpAnyH_take (i := 2) (v := ?_) rfl (by kernel_rfl) (by kernel_rfl) (by kernel_rfl) (fun _ _ _ h => h) (Or.inl ⟨by kernel_rfl, ?_⟩) hHeld ?_
  rotate_left
  · intro w hSw
    (try dsimp only at hSw)
    go_split_ands
    go_simp
    (try with_reducible rfl)
  try simp only [Act.put, List.getElem_toArray, List.getElem_cons_succ, List.getElem_cons_zero, List.setIfInBounds_toArray, List.set_cons_zero, List.set_cons_succ]
  refine wpAnyH_take (i := 3) (v := ?_) rfl (by kernel_rfl) (by kernel_rfl) (by kernel_rfl) (fun _ _ _ h => h) (Or.inl ⟨by kernel_rfl, ?_⟩) hHeld ?_
  rotate_left
  · intro w hSw
    (try dsimp only at hSw)
    go_split_ands
    go_simp
    (try with_reducible rfl)
  try simp only [Act.put, List.getElem_toArray, List.getElem_cons_succ, List.getElem_cons_zero, List.setIfInBounds_toArray, List.set_cons_zero, List.set_cons_succ]
  refine wpAnyH_take (i := 4) (v := ?_) rfl (by kernel_rfl) (by kernel_rfl) (by kernel_rfl) (fun _ _ _ h => h) (Or.inl ⟨by kernel_rfl, ?_⟩) hHeld ?_
  rotate_left
  · intro w hSw
    (try dsimp only at hSw)
    go_split_ands
    go_simp
    (try with_reducible rfl)
  try simp only [Act.put, List.getElem_toArray, List.getElem_cons_succ, List.getElem_cons_zero, List.setIfInBounds_toArray, List.set_cons_zero, List.set_cons_succ]
  refine wpAnyH_take (i := 5) (v := ?_) rfl (by kernel_rfl) (by kernel_rfl) (by kernel_rfl) (fun _ _ _ h => h) (Or.inl ⟨by kernel_rfl, ?_⟩) hHeld ?_
  rotate_left
  · intro w hSw
    (try dsimp only at hSw)
    go_split_ands
    go_simp
    (try with_reducible rfl)
  try simp only [Act.put, List.getElem_toArray, List.getElem_cons_succ, List.getElem_cons_zero, List.setIfInBounds_toArray, List.set_cons_zero, List.set_cons_succ]
  refine wpAnyH_take (i := 6) (v := ?_) rfl (by kernel_rfl) (by kernel_rfl) (by kernel_rfl) (fun _ _ _ h => h) (Or.inl ⟨by kernel_rfl, ?_⟩) hHeld ?_
  rotate_left
  · intro w hSw
    (try dsimp only at hSw)
    go_split_ands
    go_simp
    (try with_reducible rfl)
  try simp only [Act.put, List.getElem_toArray, List.getElem_cons_succ, List.getElem_cons_zero, List.setIfInBounds_toArray, List.set_cons_zero, List.set_cons_succ]
  refine wpAnyH_take (i := 7) (v := ?_) rfl (by kernel_rfl) (by kernel_rfl) (by kernel_rfl) (fun _ _ _ h => h) (Or.inl ⟨by kernel_rfl, ?_⟩) hHeld ?_
  rotate_left
  · intro w hSw
    (try dsimp only at hSw)
    go_split_ands
    go_simp
    (try with_reducible rfl)
  try simp only [Act.put, List.getElem_toArray, List.getElem_cons_succ, List.getElem_cons_zero, List.setIfInBounds_toArray, List.set_cons_zero, List.set_cons_succ]
  refine wpAnyH_ready (rs := [8]) (by kernel_rfl) (by simp) ?_
  refine AllReadyH.cons rfl (fun KK hK => ?_) AllReadyH.nil
  clear hHeld
  have t0 := P_1.out.c3
  go_simp
  clear t0
  refine hK.out _ _ trivial (fun hHeld => ?_)
  clear hK KK
  try simp only [Act.put, List.getElem_toArray, List.getElem_cons_succ, List.getElem_cons_zero, List.setIfInBounds_toArray, List.set_cons_zero, List.set_cons_succ]
  refine wpAnyH_ready (rs := [9]) (by kernel_rfl) (by simp) ?_
  refine AllReadyH.cons rfl (fun KK hK => ?_) AllReadyH.nil
  clear hHeld
  go_simp
  refine (put_in B 0 n V x size v _ P_1.out.wat (by omega) HX.out (by omega)).mono ?_
  rintro e w3 ⟨rfl, v', hw, hs3⟩
  have HQ := Lib.hid (P_1.out.put hw hs3)
  have HZ := Lib.hid X_1.out.size
  have HY := Lib.hid ((PStep.ext (B := B) (v := v) (M := fun _ => False) X_1.out).trans HQ.out.2 (fun _ _ q => q))
  clear hw hs3
  go_simp
  refine hK.out _ _ trivial (fun hHeld => ?_)
  clear hK KK
  try simp only [Act.put, List.getElem_toArray, List.getElem_cons_succ, List.getElem_cons_zero, List.setIfInBounds_toArray, List.set_cons_zero, List.set_cons_succ]
  refine wpAnyH_done (by kernel_rfl) ?_ _
  clear hHeld
  go_wp2_with fail
  go_end0
  exact ⟨rfl, v', HQ.out.1, HY.out⟩
set_option linter.unusedSimpArgs false in
set_option maxHeartbeats 2000000 in
theorem pclear_any (B V n wd size next : Nat) (v mv : Value) (w : World) (h : PB w B v V n (.int .i64 (wd : Int)) (.int .i64 (size : Int)) (.int .i64 (next : Int)) mv) (h2 : 2 ≤ wd) (h8 : wd ≤ 8) (hs : size ≤ 12) (hx : 2 ^ wd < 2 ^ size) (hn : n ≤ 100000000) :
    Calls Tryd.prog 40 #[.pointer (some ⟨B, 0, none⟩)] w fun e w' => e = .returned (.tuple #[]) ∧ ∃ v' mp, PB w' B v' (V + 2 ^ wd * 2 ^ n) (n + size) (.int .i64 (wd : Int)) (.int .i64 ((wd : Int) + 1)) (.int .i64 (((2 ^ wd : Nat) : Int) + 2)) (.map (some mp)) ∧ MK w' mp 0 (fun _ _ => none) ∧ mp ≠ B ∧ v'.ownBlock ≠ some mp ∧ w.heap.size ≤ mp ∧ PStep w w' B v v' (fun _ => False) := by
  have HP := Lib.hid h
  obtain ⟨c, hc⟩ : ∃ c : Nat, 2 ^ wd = c := ⟨_, rfl⟩
  obtain ⟨hcl, hch⟩ := pow_bds hc h2 h8
  have hcI := pow_int hc
  rw [hc] at hx ⊢
  have HX := Lib.hid hx
  clear h hx hc
  have k2 := HP.out.c2
  go_enter Tryd.func40, Tryd.ntmps40
  go_wp2_with fail
  clear k2
  refine (pcode_any B V n wd size next c v mv _ HP.out hs HX.out hn).mono ?_
  rintro e w1 ⟨rfl, v1, h1, s1⟩
  have P_0 := Lib.hid h1
  have S_0 := Lib.hid s1
  have HL1 := Lib.hid h1.lt
  clear h1 s1
  have hw1 := wrap_i (x := (wd : Int) + 1) (by omega) (by omega)
  have hw2 := wrap_i (x := (c : Int)) (by omega) (by omega)
  have hw3 := wrap_i (x := (c : Int) + 2) (by omega) (by omega)
  go_wp2_with fail
  refine wp_region_held_drew (S := fun w' => w'.cell? ⟨B, 2, none⟩ = some (.int .i64 (wd : Int)) ∧ w'.cell? ⟨B, 2, none⟩ = some (.int .i64 (wd : Int))) (by kernel_rfl) ⟨P_0.out.c2, P_0.out.c2⟩ (fun hHeld => ?_)
  clear hHeld
  refine anyH_world (fun wz => PB wz B v1 (V + c * 2 ^ n) (n + size) (.int .i64 (wd : Int)) (.int .i64 (size : Int)) (.int .i64 (next : Int)) mv ∧ PStep w wz B v v1 (fun _ => False)) ⟨P_0.out.drew 1, S_0.out.trans (PStep.ext ((Ext.refl _).drewN 1)) (fun _ _ q => q)⟩ ?_
  rintro x1 ⟨hP, hS⟩
  have P_1 := Lib.hid hP
  have S_1 := Lib.hid hS
  clear hP hS P_0 S_0
  have hHeld : x1.cell? ⟨B, 2, none⟩ = some (.int .i64 (wd : Int)) ∧ x1.cell? ⟨B, 2, none⟩ = some (.int .i64 (wd : Int)) := ⟨P_1.out.c2, P_1.out.c2⟩
  refine wpAnyH_take (i := 0) (v := ?_) rfl (by kernel_rfl) (by kernel_rfl) (by kernel_rfl) (fun _ _ _ h => h) (Or.inl ⟨by kernel_rfl, ?_⟩) hHeld ?_
  rotate_left
  · intro w hSw
    (try dsimp only at hSw)
    go_split_ands
    go_simp
    (try with_reducible rfl)
  try simp only [Act.put, List.getElem_toArray, List.getElem_cons_succ, List.getElem_cons_zero, List.setIfInBounds_toArray, List.set_cons_zero, List.set_cons_succ]
  refine wpAnyH_take (i := 1) (v := ?_) rfl (by kernel_rfl) (by kernel_rfl) (by kernel_rfl) (fun _ _ _ h => h) (Or.inl ⟨by kernel_rfl, ?_⟩) hHeld ?_
  rotate_left
  · intro w hSw
    (try dsimp only at hSw)
    go_split_ands
    go_simp
    (try with_reducible rfl)
  try simp only [Act.put, List.getElem_toArray, List.getElem_cons_succ, List.getElem_cons_zero, List.setIfInBounds_toArray, List.set_cons_zero, List.set_cons_succ]
  refine wpAnyH_take (i := 2) (v := ?_) rfl (by kernel_rfl) (by kernel_rfl) (by kernel_rfl) (fun _ _ _ h => h) (Or.inl ⟨by kernel_rfl, ?_⟩) hHeld ?_
  rotate_left
  · intro w hSw
    (try dsimp only at hSw)
    go_split_ands
    go_simp
    (try with_reducible rfl)
  try simp only [Act.put, List.getElem_toArray, List.getElem_cons_succ, List.getElem_cons_zero, List.setIfInBounds_toArray, List.set_cons_zero, List.set_cons_succ]
  refine wpAnyH_take (i := 3) (v := ?_) rfl (by kernel_rfl) (by kernel_rfl) (by kernel_rfl) (fun _ _ _ h => h) (Or.inl ⟨by kernel_rfl, ?_⟩) hHeld ?_
  rotate_left
  · intro w hSw
    (try dsimp only at hSw)
    go_split_ands
    go_simp
    (try with_reducible rfl)
  try simp only [Act.put, List.getElem_toArray, List.getElem_cons_succ, List.getElem_cons_zero, List.setIfInBounds_toArray, List.set_cons_zero, List.set_cons_succ]
  refine wpAnyH_take (i := 4) (v := ?_) rfl (by kernel_rfl) (by kernel_rfl) (by kernel_rfl) (fun _ _ _ h => h) (Or.inl ⟨by kernel_rfl, ?_⟩) hHeld ?_
  rotate_left
  · intro w hSw
    (try dsimp only at hSw)
    go_split_ands
    go_simp
    (try with_reducible rfl)
  try simp only [Act.put, List.getElem_toArray, List.getElem_cons_succ, List.getElem_cons_zero, List.setIfInBounds_toArray, List.set_cons_zero, List.set_cons_succ]
  refine wpAnyH_take (i := 5) (v := ?_) rfl (by kernel_rfl) (by kernel_rfl) (by kernel_rfl) (fun _ _ _ h => h) (Or.inl ⟨by kernel_rfl, ?_⟩) hHeld ?_
  rotate_left
  · intro w hSw
    (try dsimp only at hSw)
    go_split_ands
    go_simp
    (try with_reducible rfl)
  try simp only [Act.put, List.getElem_toArray, List.getElem_cons_succ, List.getElem_cons_zero, List.setIfInBounds_toArray, List.set_cons_zero, List.set_cons_succ]
  refine wpAnyH_take (i := 6) (v := ?_) rfl (by kernel_rfl) (by kernel_rfl) (by kernel_rfl) (fun _ _ _ h => h) (Or.inl ⟨by kernel_rfl, ?_⟩) hHeld ?_
  rotate_left
  · intro w hSw
    (try dsimp only at hSw)
    go_split_ands
    go_simp
    (try with_reducible rfl)
  try simp only [Act.put, List.getElem_toArray, List.getElem_cons_succ, List.getElem_cons_zero, List.setIfInBounds_toArray, List.set_cons_zero, List.set_cons_succ]
  refine wpAnyH_take (i := 7) (v := ?_) rfl (by kernel_rfl) (by kernel_rfl) (by kernel_rfl) (fun _ _ _ h => h) (Or.inl ⟨by kernel_rfl, ?_⟩) hHeld ?_
  rotate_left
  · intro w hSw
    (try dsimp only at hSw)
    go_split_ands
    go_simp
    (try with_reducible rfl)
  try simp only [Act.put, List.getElem_toArray, List.getElem_cons_succ, List.getElem_cons_zero, List.setIfInBounds_toArray, List.set_cons_zero, List.set_cons_succ]
  refine wpAnyH_take (i := 8) (v := ?_) rfl (by kernel_rfl) (by kernel_rfl) (by kernel_rfl) (fun _ _ _ h => h) (Or.inl ⟨by kernel_rfl, ?_⟩) hHeld ?_
  rotate_left
  · intro w hSw
    (try dsimp only at hSw)
    go_split_ands
    go_simp
    (try with_reducible rfl)
  try simp only [Act.put, List.getElem_toArray, List.getElem_cons_succ, List.getElem_cons_zero, List.setIfInBounds_toArray, List.set_cons_zero, List.set_cons_succ]
  refine wpAnyH_take (i := 9) (v := ?_) rfl (by kernel_rfl) (by kernel_rfl) (by kernel_rfl) (fun _ _ _ h => h) (Or.inl ⟨by kernel_rfl, ?_⟩) hHeld ?_
  rotate_left
  · intro w hSw
    (try dsimp only at hSw)
    go_split_ands
    go_simp
    (try with_reducible rfl)
  try simp only [Act.put, List.getElem_toArray, List.getElem_cons_succ, List.getElem_cons_zero, List.setIfInBounds_toArray, List.set_cons_zero, List.set_cons_succ]
  refine wpAnyH_take (i := 10) (v := ?_) rfl (by kernel_rfl) (by kernel_rfl) (by kernel_rfl) (fun _ _ _ h => h) (Or.inl ⟨by kernel_rfl, ?_⟩) hHeld ?_
  rotate_left
  · intro w hSw
    (try dsimp only at hSw)
    go_split_ands
    go_simp
    (try with_reducible rfl)
  try simp only [Act.put, List.getElem_toArray, List.getElem_cons_succ, List.getElem_cons_zero, List.setIfInBounds_toArray, List.set_cons_zero, List.set_cons_succ]
  refine wpAnyH_take (i := 11) (v := ?_) rfl (by kernel_rfl) (by kernel_rfl) (by kernel_rfl) (fun _ _ _ h => h) (Or.inl ⟨by kernel_rfl, ?_⟩) hHeld ?_
  rotate_left
  · intro w hSw
    (try dsimp only at hSw)
    go_split_ands
    go_simp
    (try with_reducible rfl)
  try simp only [Act.put, List.getElem_toArray, List.getElem_cons_succ, List.getElem_cons_zero, List.setIfInBounds_toArray, List.set_cons_zero, List.set_cons_succ]
  refine wpAnyH_take (i := 12) (v := ?_) rfl (by kernel_rfl) (by kernel_rfl) (by kernel_rfl) (fun _ _ _ h => h) (Or.inl ⟨by kernel_rfl, ?_⟩) hHeld ?_
  rotate_left
  · intro w hSw
    (try dsimp only at hSw)
    go_split_ands
    go_simp
    (try with_reducible rfl)
  try simp only [Act.put, List.getElem_toArray, List.getElem_cons_succ, List.getElem_cons_zero, List.setIfInBounds_toArray, List.set_cons_zero, List.set_cons_succ]
  refine wpAnyH_take (i := 13) (v := ?_) rfl (by kernel_rfl) (by kernel_rfl) (by kernel_rfl) (fun _ _ _ h => h) (Or.inl ⟨by kernel_rfl, ?_⟩) hHeld ?_
  rotate_left
  · intro w hSw
    (try dsimp only at hSw)
    go_split_ands
    go_simp
    (try with_reducible rfl)
  try simp only [Act.put, List.getElem_toArray, List.getElem_cons_succ, List.getElem_cons_zero, List.setIfInBounds_toArray, List.set_cons_zero, List.set_cons_succ]
  refine wpAnyH_take (i := 15) (v := ?_) rfl (by kernel_rfl) (by kernel_rfl) (by kernel_rfl) (fun _ _ _ h => h) (Or.inl ⟨by kernel_rfl, ?_⟩) hHeld ?_
  rotate_left
  · intro w hSw
    (try dsimp only at hSw)
    go_split_ands
    go_simp
    (try with_reducible rfl)
  try simp only [Act.put, List.getElem_toArray, List.getElem_cons_succ, List.getElem_cons_zero, List.setIfInBounds_toArray, List.set_cons_zero, List.set_cons_succ]
  refine wpAnyH_take (i := 16) (v := ?_) rfl (by kernel_rfl) (by kernel_rfl) (by kernel_rfl) (fun _ _ _ h => h) (Or.inl ⟨by kernel_rfl, ?_⟩) hHeld ?_
  rotate_left
  · intro w hSw
    (try dsimp only at hSw)
    go_split_ands
    go_simp
    (try with_reducible rfl)
  try simp only [Act.put, List.getElem_toArray, List.getElem_cons_succ, List.getElem_cons_zero, List.setIfInBounds_toArray, List.set_cons_zero, List.set_cons_succ]
  refine wpAnyH_ready (rs := [14, 17]) (by kernel_rfl) (by simp) ?_
  refine AllReadyH.cons rfl (fun KK hK => ?_) (AllReadyH.cons rfl (fun KK hK => ?_) AllReadyH.nil)
  · clear hHeld
    go_simp
    refine hK.out _ _ ⟨(P_1.out.ext ((Ext.refl _).alloc _)).c2, (P_1.out.ext ((Ext.refl _).alloc _)).c2⟩ (fun hHeld => ?_)
    clear hK KK hHeld
    try simp only [Act.put, List.getElem_toArray, List.getElem_cons_succ, List.getElem_cons_zero, List.setIfInBounds_toArray, List.set_cons_zero, List.set_cons_succ]
    have hmp : w.heap.size ≤ x1.heap.size := S_1.out.keeps.size
    have hv1 : v1.ownBlock ≠ some x1.heap.size := fun e => by obtain ⟨l, _, _, hr⟩ := P_1.out.wat.row; have := (hr.lt _ e).2; omega
    have hBn : x1.heap.size ≠ B := by have := P_1.out.lt; omega
    obtain ⟨mp, hmpe⟩ : ∃ mp, x1.heap.size = mp := ⟨_, rfl⟩
    have hMK : MK (x1.alloc (.map #[] 0)) mp 0 (fun _ _ => none) := by rw [← hmpe]; exact MK.new _
    rw [hmpe] at hmp hv1 hBn
    rw [hmpe]
    clear hmpe
    refine anyH_world (fun wz => PB wz B v1 (V + c * 2 ^ n) (n + size) (.int .i64 (wd : Int)) (.int .i64 (size : Int)) (.int .i64 (next : Int)) mv ∧ PStep w wz B v v1 (fun _ => False) ∧ MK wz mp 0 (fun _ _ => none) ∧ v1.ownBlock ≠ some mp ∧ mp ≠ B ∧ w.heap.size ≤ mp) ⟨P_1.out.ext ((Ext.refl _).alloc _), S_1.out.trans (PStep.ext ((Ext.refl _).alloc _)) (fun _ _ q => q), ⟨hMK, hv1, hBn, hmp⟩⟩ ?_
    rintro x2 ⟨hP, hS, hM⟩
    have P_2 := Lib.hid hP
    have S_2 := Lib.hid hS
    have M_2 := Lib.hid hM
    clear hM
    clear hP hS P_1 S_1
    have hHeld : x2.cell? ⟨B, 2, none⟩ = some (.int .i64 (wd : Int)) ∧ x2.cell? ⟨B, 2, none⟩ = some (.int .i64 (wd : Int)) := ⟨P_2.out.c2, P_2.out.c2⟩
    clear hMK hv1 hBn hmp
    refine wpAnyH_ready (rs := [17]) (by kernel_rfl) (by simp) ?_
    refine AllReadyH.cons rfl (fun KK hK => ?_) AllReadyH.nil
    clear hHeld
    have t0 := P_2.out.c3
    have t1 := P_2.out.f3
    go_simp
    clear t0 t1
    refine hK.out _ _ ⟨(P_2.out.set3).c2, (P_2.out.set3).c2⟩ (fun hHeld => ?_)
    clear hK KK hHeld
    try simp only [Act.put, List.getElem_toArray, List.getElem_cons_succ, List.getElem_cons_zero, List.setIfInBounds_toArray, List.set_cons_zero, List.set_cons_succ]
    refine anyH_world (fun wz => PB wz B v1 (V + c * 2 ^ n) (n + size) (.int .i64 (wd : Int)) (.int .i64 ((wd : Int) + 1)) (.int .i64 (next : Int)) mv ∧ PStep w wz B v v1 (fun _ => False) ∧ MK wz mp 0 (fun _ _ => none) ∧ v1.ownBlock ≠ some mp ∧ mp ≠ B ∧ w.heap.size ≤ mp) ⟨P_2.out.set3, S_2.out.trans PStep.set (fun _ _ q => q), ⟨M_2.out.1.keeps ((Keeps.refl (fun i => i = B) _).setCell (.inl rfl) _) M_2.out.2.2.1, M_2.out.2⟩⟩ ?_
    rintro x3 ⟨hP, hS, hM⟩
    have P_3 := Lib.hid hP
    have S_3 := Lib.hid hS
    have M_3 := Lib.hid hM
    clear hM
    clear hP hS P_2 S_2 M_2
    have hHeld : x3.cell? ⟨B, 2, none⟩ = some (.int .i64 (wd : Int)) ∧ x3.cell? ⟨B, 2, none⟩ = some (.int .i64 (wd : Int)) := ⟨P_3.out.c2, P_3.out.c2⟩
    refine wpAnyH_take (i := 18) (v := ?_) rfl (by kernel_rfl) (by kernel_rfl) (by kernel_rfl) (fun _ _ _ h => h) (Or.inl ⟨by kernel_rfl, ?_⟩) hHeld ?_
    rotate_left
    · intro w hSw
      (try dsimp only at hSw)
      go_split_ands
      go_simp
      (try with_reducible rfl)
    try simp only [Act.put, List.getElem_toArray, List.getElem_cons_succ, List.getElem_cons_zero, List.setIfInBounds_toArray, List.set_cons_zero, List.set_cons_succ]
    refine wpAnyH_take (i := 19) (v := ?_) rfl (by kernel_rfl) (by kernel_rfl) (by kernel_rfl) (fun _ _ _ h => h) (Or.inl ⟨by kernel_rfl, ?_⟩) hHeld ?_
    rotate_left
    · intro w hSw
      (try dsimp only at hSw)
      go_split_ands
      go_simp
      (try with_reducible rfl)
    try simp only [Act.put, List.getElem_toArray, List.getElem_cons_succ, List.getElem_cons_zero, List.setIfInBounds_toArray, List.set_cons_zero, List.set_cons_succ]
    refine wpAnyH_ready (rs := [20]) (by kernel_rfl) (by simp) ?_
    refine AllReadyH.cons rfl (fun KK hK => ?_) AllReadyH.nil
    clear hHeld
    have t0 := P_3.out.c4
    have t1 := P_3.out.f4
    go_simp
    clear t0 t1
    refine hK.out _ _ ⟨(P_3.out.set4).c2, (P_3.out.set4).c2⟩ (fun hHeld => ?_)
    clear hK KK hHeld
    try simp only [Act.put, List.getElem_toArray, List.getElem_cons_succ, List.getElem_cons_zero, List.setIfInBounds_toArray, List.set_cons_zero, List.set_cons_succ]
    refine anyH_world (fun wz => PB wz B v1 (V + c * 2 ^ n) (n + size) (.int .i64 (wd : Int)) (.int .i64 ((wd : Int) + 1)) (.int .i64 ((c : Int) + 2)) mv ∧ PStep w wz B v v1 (fun _ => False) ∧ MK wz mp 0 (fun _ _ => none) ∧ v1.ownBlock ≠ some mp ∧ mp ≠ B ∧ w.heap.size ≤ mp) ⟨P_3.out.set4, S_3.out.trans PStep.set (fun _ _ q => q), ⟨M_3.out.1.keeps ((Keeps.refl (fun i => i = B) _).setCell (.inl rfl) _) M_3.out.2.2.1, M_3.out.2⟩⟩ ?_
    rintro x4 ⟨hP, hS, hM⟩
    have P_4 := Lib.hid hP
    have S_4 := Lib.hid hS
    have M_4 := Lib.hid hM
    clear hM
    clear hP hS P_3 S_3 M_3
    have hHeld : x4.cell? ⟨B, 2, none⟩ = some (.int .i64 (wd : Int)) ∧ x4.cell? ⟨B, 2, none⟩ = some (.int .i64 (wd : Int)) := ⟨P_4.out.c2, P_4.out.c2⟩
    refine wpAnyH_take (i := 21) (v := ?_) rfl (by kernel_rfl) (by kernel_rfl) (by kernel_rfl) (fun _ _ _ h => h) (Or.inl ⟨by kernel_rfl, ?_⟩) hHeld ?_
    rotate_left
    · intro w hSw
      (try dsimp only at hSw)
      go_split_ands
      go_simp
      (try with_reducible rfl)
    try simp only [Act.put, List.getElem_toArray, List.getElem_cons_succ, List.getElem_cons_zero, List.setIfInBounds_toArray, List.set_cons_zero, List.set_cons_succ]
    refine wpAnyH_take (i := 22) (v := ?_) rfl (by kernel_rfl) (by kernel_rfl) (by kernel_rfl) (fun _ _ _ h => h) (Or.inl ⟨by kernel_rfl, ?_⟩) hHeld ?_
    rotate_left
    · intro w hSw
      (try dsimp only at hSw)
      go_split_ands
      go_simp
      (try with_reducible rfl)
    try simp only [Act.put, List.getElem_toArray, List.getElem_cons_succ, List.getElem_cons_zero, List.setIfInBounds_toArray, List.set_cons_zero, List.set_cons_succ]
    refine wpAnyH_ready (rs := [23]) (by kernel_rfl) (by simp) ?_
    refine AllReadyH.cons rfl (fun KK hK => ?_) AllReadyH.nil
    clear hHeld
    have t0 := P_4.out.c5
    have t1 := P_4.out.f5
    go_simp
    clear t0 t1
    refine hK.out _ _ ⟨(P_4.out.set5).c2, (P_4.out.set5).c2⟩ (fun hHeld => ?_)
    clear hK KK hHeld
    try simp only [Act.put, List.getElem_toArray, List.getElem_cons_succ, List.getElem_cons_zero, List.setIfInBounds_toArray, List.set_cons_zero, List.set_cons_succ]
    refine anyH_world (fun wz => PB wz B v1 (V + c * 2 ^ n) (n + size) (.int .i64 (wd : Int)) (.int .i64 ((wd : Int) + 1)) (.int .i64 ((c : Int) + 2)) (.map (some mp)) ∧ PStep w wz B v v1 (fun _ => False) ∧ MK wz mp 0 (fun _ _ => none) ∧ v1.ownBlock ≠ some mp ∧ mp ≠ B ∧ w.heap.size ≤ mp) ⟨P_4.out.set5, S_4.out.trans PStep.set (fun _ _ q => q), ⟨M_4.out.1.keeps ((Keeps.refl (fun i => i = B) _).setCell (.inl rfl) _) M_4.out.2.2.1, M_4.out.2⟩⟩ ?_
    rintro x5 ⟨hP, hS, hM⟩
    have P_5 := Lib.hid hP
    have S_5 := Lib.hid hS
    have M_5 := Lib.hid hM
    clear hM
    clear hP hS P_4 S_4 M_4
    have hHeld : x5.cell? ⟨B, 2, none⟩ = some (.int .i64 (wd : Int)) ∧ x5.cell? ⟨B, 2, none⟩ = some (.int .i64 (wd : Int)) := ⟨P_5.out.c2, P_5.out.c2⟩
    refine wpAnyH_done (by kernel_rfl) ?_ _
    clear hHeld
    go_wp2_with fail
    go_end0
    exact ⟨rfl, v1, mp, P_5.out, M_5.out.1, M_5.out.2.2.1, M_5.out.2.1, M_5.out.2.2.2, S_5.out⟩
  · clear hHeld
    have t0 := P_1.out.c3
    have t1 := P_1.out.f3
    go_simp
    clear t0 t1
    refine hK.out _ _ ⟨(P_1.out.set3).c2, (P_1.out.set3).c2⟩ (fun hHeld => ?_)
    clear hK KK hHeld
    try simp only [Act.put, List.getElem_toArray, List.getElem_cons_succ, List.getElem_cons_zero, List.setIfInBounds_toArray, List.set_cons_zero, List.set_cons_succ]
    refine anyH_world (fun wz => PB wz B v1 (V + c * 2 ^ n) (n + size) (.int .i64 (wd : Int)) (.int .i64 ((wd : Int) + 1)) (.int .i64 (next : Int)) mv ∧ PStep w wz B v v1 (fun _ => False)) ⟨P_1.out.set3, S_1.out.trans PStep.set (fun _ _ q => q)⟩ ?_
    rintro x2 ⟨hP, hS⟩
    have P_2 := Lib.hid hP
    have S_2 := Lib.hid hS
    clear hP hS P_1 S_1
    have hHeld : x2.cell? ⟨B, 2, none⟩ = some (.int .i64 (wd : Int)) ∧ x2.cell? ⟨B, 2, none⟩ = some (.int .i64 (wd : Int)) := ⟨P_2.out.c2, P_2.out.c2⟩
    refine wpAnyH_take (i := 18) (v := ?_) rfl (by kernel_rfl) (by kernel_rfl) (by kernel_rfl) (fun _ _ _ h => h) (Or.inl ⟨by kernel_rfl, ?_⟩) hHeld ?_
    rotate_left
    · intro w hSw
      (try dsimp only at hSw)
      go_split_ands
      go_simp
      (try with_reducible rfl)
    try simp only [Act.put, List.getElem_toArray, List.getElem_cons_succ, List.getElem_cons_zero, List.setIfInBounds_toArray, List.set_cons_zero, List.set_cons_succ]
    refine wpAnyH_take (i := 19) (v := ?_) rfl (by kernel_rfl) (by kernel_rfl) (by kernel_rfl) (fun _ _ _ h => h) (Or.inl ⟨by kernel_rfl, ?_⟩) hHeld ?_
    rotate_left
    · intro w hSw
      (try dsimp only at hSw)
      go_split_ands
      go_simp
      (try with_reducible rfl)
    try simp only [Act.put, List.getElem_toArray, List.getElem_cons_succ, List.getElem_cons_zero, List.setIfInBounds_toArray, List.set_cons_zero, List.set_cons_succ]
    refine wpAnyH_ready (rs := [14, 20]) (by kernel_rfl) (by simp) ?_
    refine AllReadyH.cons rfl (fun KK hK => ?_) (AllReadyH.cons rfl (fun KK hK => ?_) AllReadyH.nil)
    · clear hHeld
      go_simp
      refine hK.out _ _ ⟨(P_2.out.ext ((Ext.refl _).alloc _)).c2, (P_2.out.ext ((Ext.refl _).alloc _)).c2⟩ (fun hHeld => ?_)
      clear hK KK hHeld
      try simp only [Act.put, List.getElem_toArray, List.getElem_cons_succ, List.getElem_cons_zero, List.setIfInBounds_toArray, List.set_cons_zero, List.set_cons_succ]
      have hmp : w.heap.size ≤ x2.heap.size := S_2.out.keeps.size
      have hv1 : v1.ownBlock ≠ some x2.heap.size := fun e => by obtain ⟨l, _, _, hr⟩ := P_2.out.wat.row; have := (hr.lt _ e).2; omega
      have hBn : x2.heap.size ≠ B := by have := P_2.out.lt; omega
      obtain ⟨mp, hmpe⟩ : ∃ mp, x2.heap.size = mp := ⟨_, rfl⟩
      have hMK : MK (x2.alloc (.map #[] 0)) mp 0 (fun _ _ => none) := by rw [← hmpe]; exact MK.new _
      rw [hmpe] at hmp hv1 hBn
      rw [hmpe]
      clear hmpe
      refine anyH_world (fun wz => PB wz B v1 (V + c * 2 ^ n) (n + size) (.int .i64 (wd : Int)) (.int .i64 ((wd : Int) + 1)) (.int .i64 (next : Int)) mv ∧ PStep w wz B v v1 (fun _ => False) ∧ MK wz mp 0 (fun _ _ => none) ∧ v1.ownBlock ≠ some mp ∧ mp ≠ B ∧ w.heap.size ≤ mp) ⟨P_2.out.ext ((Ext.refl _).alloc _), S_2.out.trans (PStep.ext ((Ext.refl _).alloc _)) (fun _ _ q => q), ⟨hMK, hv1, hBn, hmp⟩⟩ ?_
      rintro x3 ⟨hP, hS, hM⟩
      have P_3 := Lib.hid hP
      have S_3 := Lib.hid hS
      have M_3 := Lib.hid hM
      clear hM
      clear hP hS P_2 S_2
      have hHeld : x3.cell? ⟨B, 2, none⟩ = some (.int .i64 (wd : Int)) ∧ x3.cell? ⟨B, 2, none⟩ = some (.int .i64 (wd : Int)) := ⟨P_3.out.c2, P_3.out.c2⟩
      clear hMK hv1 hBn hmp
      refine wpAnyH_ready (rs := [20]) (by kernel_rfl) (by simp) ?_
      refine AllReadyH.cons rfl (fun KK hK => ?_) AllReadyH.nil
      clear hHeld
      have t0 := P_3.out.c4
      have t1 := P_3.out.f4
      go_simp
      clear t0 t1
      refine hK.out _ _ ⟨(P_3.out.set4).c2, (P_3.out.set4).c2⟩ (fun hHeld => ?_)
      clear hK KK hHeld
      try simp only [Act.put, List.getElem_toArray, List.getElem_cons_succ, List.getElem_cons_zero, List.setIfInBounds_toArray, List.set_cons_zero, List.set_cons_succ]
      refine anyH_world (fun wz => PB wz B v1 (V + c * 2 ^ n) (n + size) (.int .i64 (wd : Int)) (.int .i64 ((wd : Int) + 1)) (.int .i64 ((c : Int) + 2)) mv ∧ PStep w wz B v v1 (fun _ => False) ∧ MK wz mp 0 (fun _ _ => none) ∧ v1.ownBlock ≠ some mp ∧ mp ≠ B ∧ w.heap.size ≤ mp) ⟨P_3.out.set4, S_3.out.trans PStep.set (fun _ _ q => q), ⟨M_3.out.1.keeps ((Keeps.refl (fun i => i = B) _).setCell (.inl rfl) _) M_3.out.2.2.1, M_3.out.2⟩⟩ ?_
      rintro x4 ⟨hP, hS, hM⟩
      have P_4 := Lib.hid hP
      have S_4 := Lib.hid hS
      have M_4 := Lib.hid hM
      clear hM
      clear hP hS P_3 S_3 M_3
      have hHeld : x4.cell? ⟨B, 2, none⟩ = some (.int .i64 (wd : Int)) ∧ x4.cell? ⟨B, 2, none⟩ = some (.int .i64 (wd : Int)) := ⟨P_4.out.c2, P_4.out.c2⟩
      refine wpAnyH_take (i := 21) (v := ?_) rfl (by kernel_rfl) (by kernel_rfl) (by kernel_rfl) (fun _ _ _ h => h) (Or.inl ⟨by kernel_rfl, ?_⟩) hHeld ?_
      rotate_left
      · intro w hSw
        (try dsimp only at hSw)
        go_split_ands
        go_simp
        (try with_reducible rfl)
      try simp only [Act.put, List.getElem_toArray, List.getElem_cons_succ, List.getElem_cons_zero, List.setIfInBounds_toArray, List.set_cons_zero, List.set_cons_succ]
      refine wpAnyH_take (i := 22) (v := ?_) rfl (by kernel_rfl) (by kernel_rfl) (by kernel_rfl) (fun _ _ _ h => h) (Or.inl ⟨by kernel_rfl, ?_⟩) hHeld ?_
      rotate_left
      · intro w hSw
        (try dsimp only at hSw)
        go_split_ands
        go_simp
        (try with_reducible rfl)
      try simp only [Act.put, List.getElem_toArray, List.getElem_cons_succ, List.getElem_cons_zero, List.setIfInBounds_toArray, List.set_cons_zero, List.set_cons_succ]
      refine wpAnyH_ready (rs := [23]) (by kernel_rfl) (by simp) ?_
      refine AllReadyH.cons rfl (fun KK hK => ?_) AllReadyH.nil
      clear hHeld
      have t0 := P_4.out.c5
      have t1 := P_4.out.f5
      go_simp
      clear t0 t1
      refine hK.out _ _ ⟨(P_4.out.set5).c2, (P_4.out.set5).c2⟩ (fun hHeld => ?_)
      clear hK KK hHeld
      try simp only [Act.put, List.getElem_toArray, List.getElem_cons_succ, List.getElem_cons_zero, List.setIfInBounds_toArray, List.set_cons_zero, List.set_cons_succ]
      refine anyH_world (fun wz => PB wz B v1 (V + c * 2 ^ n) (n + size) (.int .i64 (wd : Int)) (.int .i64 ((wd : Int) + 1)) (.int .i64 ((c : Int) + 2)) (.map (some mp)) ∧ PStep w wz B v v1 (fun _ => False) ∧ MK wz mp 0 (fun _ _ => none) ∧ v1.ownBlock ≠ some mp ∧ mp ≠ B ∧ w.heap.size ≤ mp) ⟨P_4.out.set5, S_4.out.trans PStep.set (fun _ _ q => q), ⟨M_4.out.1.keeps ((Keeps.refl (fun i => i = B) _).setCell (.inl rfl) _) M_4.out.2.2.1, M_4.out.2⟩⟩ ?_
      rintro x5 ⟨hP, hS, hM⟩
      have P_5 := Lib.hid hP
      have S_5 := Lib.hid hS
      have M_5 := Lib.hid hM
      clear hM
      clear hP hS P_4 S_4 M_4
      have hHeld : x5.cell? ⟨B, 2, none⟩ = some (.int .i64 (wd : Int)) ∧ x5.cell? ⟨B, 2, none⟩ = some (.int .i64 (wd : Int)) := ⟨P_5.out.c2, P_5.out.c2⟩
      refine wpAnyH_done (by kernel_rfl) ?_ _
      clear hHeld
      go_wp2_with fail
      go_end0
      exact ⟨rfl, v1, mp, P_5.out, M_5.out.1, M_5.out.2.2.1, M_5.out.2.1, M_5.out.2.2.2, S_5.out⟩
    · clear hHeld
      have t0 := P_2.out.c4
      have t1 := P_2.out.f4
      go_simp
      clear t0 t1
      refine hK.out _ _ ⟨(P_2.out.set4).c2, (P_2.out.set4).c2⟩ (fun hHeld => ?_)
      clear hK KK hHeld
      try simp only [Act.put, List.getElem_toArray, List.getElem_cons_succ, List.getElem_cons_zero, List.setIfInBounds_toArray, List.set_cons_zero, List.set_cons_succ]
      refine anyH_world (fun wz => PB wz B v1 (V + c * 2 ^ n) (n + size) (.int .i64 (wd : Int)) (.int .i64 ((wd : Int) + 1)) (.int .i64 ((c : Int) + 2)) mv ∧ PStep w wz B v v1 (fun _ => False)) ⟨P_2.out.set4, S_2.out.trans PStep.set (fun _ _ q => q)⟩ ?_
      rintro x3 ⟨hP, hS⟩
      have P_3 := Lib.hid hP
      have S_3 := Lib.hid hS
      clear hP hS P_2 S_2
      have hHeld : x3.cell? ⟨B, 2, none⟩ = some (.int .i64 (wd : Int)) ∧ x3.cell? ⟨B, 2, none⟩ = some (.int .i64 (wd : Int)) := ⟨P_3.out.c2, P_3.out.c2⟩
      refine wpAnyH_ready (rs := [14]) (by kernel_rfl) (by simp) ?_
      refine AllReadyH.cons rfl (fun KK hK => ?_) AllReadyH.nil
      clear hHeld
      go_simp
      refine hK.out _ _ ⟨(P_3.out.ext ((Ext.refl _).alloc _)).c2, (P_3.out.ext ((Ext.refl _).alloc _)).c2⟩ (fun hHeld => ?_)
      clear hK KK hHeld
      try simp only [Act.put, List.getElem_toArray, List.getElem_cons_succ, List.getElem_cons_zero, List.setIfInBounds_toArray, List.set_cons_zero, List.set_cons_succ]
      have hmp : w.heap.size ≤ x3.heap.size := S_3.out.keeps.size
      have hv1 : v1.ownBlock ≠ some x3.heap.size := fun e => by obtain ⟨l, _, _, hr⟩ := P_3.out.wat.row; have := (hr.lt _ e).2; omega
      have hBn : x3.heap.size ≠ B := by have := P_3.out.lt; omega
      obtain ⟨mp, hmpe⟩ : ∃ mp, x3.heap.size = mp := ⟨_, rfl⟩
      have hMK : MK (x3.alloc (.map #[] 0)) mp 0 (fun _ _ => none) := by rw [← hmpe]; exact MK.new _
      rw [hmpe] at hmp hv1 hBn
      rw [hmpe]
      clear hmpe
      refine anyH_world (fun wz => PB wz B v1 (V + c * 2 ^ n) (n + size) (.int .i64 (wd : Int)) (.int .i64 ((wd : Int) + 1)) (.int .i64 ((c : Int) + 2)) mv ∧ PStep w wz B v v1 (fun _ => False) ∧ MK wz mp 0 (fun _ _ => none) ∧ v1.ownBlock ≠ some mp ∧ mp ≠ B ∧ w.heap.size ≤ mp) ⟨P_3.out.ext ((Ext.refl _).alloc _), S_3.out.trans (PStep.ext ((Ext.refl _).alloc _)) (fun _ _ q => q), ⟨hMK, hv1, hBn, hmp⟩⟩ ?_
      rintro x4 ⟨hP, hS, hM⟩
      have P_4 := Lib.hid hP
      have S_4 := Lib.hid hS
      have M_4 := Lib.hid hM
      clear hM
      clear hP hS P_3 S_3
      have hHeld : x4.cell? ⟨B, 2, none⟩ = some (.int .i64 (wd : Int)) ∧ x4.cell? ⟨B, 2, none⟩ = some (.int .i64 (wd : Int)) := ⟨P_4.out.c2, P_4.out.c2⟩
      clear hMK hv1 hBn hmp
      refine wpAnyH_take (i := 21) (v := ?_) rfl (by kernel_rfl) (by kernel_rfl) (by kernel_rfl) (fun _ _ _ h => h) (Or.inl ⟨by kernel_rfl, ?_⟩) hHeld ?_
      rotate_left
      · intro w hSw
        (try dsimp only at hSw)
        go_split_ands
        go_simp
        (try with_reducible rfl)
      try simp only [Act.put, List.getElem_toArray, List.getElem_cons_succ, List.getElem_cons_zero, List.setIfInBounds_toArray, List.set_cons_zero, List.set_cons_succ]
      refine wpAnyH_take (i := 22) (v := ?_) rfl (by kernel_rfl) (by kernel_rfl) (by kernel_rfl) (fun _ _ _ h => h) (Or.inl ⟨by kernel_rfl, ?_⟩) hHeld ?_
      rotate_left
      · intro w hSw
        (try dsimp only at hSw)
        go_split_ands
        go_simp
        (try with_reducible rfl)
      try simp only [Act.put, List.getElem_toArray, List.getElem_cons_succ, List.getElem_cons_zero, List.setIfInBounds_toArray, List.set_cons_zero, List.set_cons_succ]
      refine wpAnyH_ready (rs := [23]) (by kernel_rfl) (by simp) ?_
      refine AllReadyH.cons rfl (fun KK hK => ?_) AllReadyH.nil
      clear hHeld
      have t0 := P_4.out.c5
      have t1 := P_4.out.f5
      go_simp
      clear t0 t1
      refine hK.out _ _ ⟨(P_4.out.set5).c2, (P_4.out.set5).c2⟩ (fun hHeld => ?_)
      clear hK KK hHeld
      try simp only [Act.put, List.getElem_toArray, List.getElem_cons_succ, List.getElem_cons_zero, List.setIfInBounds_toArray, List.set_cons_zero, List.set_cons_succ]
      refine anyH_world (fun wz => PB wz B v1 (V + c * 2 ^ n) (n + size) (.int .i64 (wd : Int)) (.int .i64 ((wd : Int) + 1)) (.int .i64 ((c : Int) + 2)) (.map (some mp)) ∧ PStep w wz B v v1 (fun _ => False) ∧ MK wz mp 0 (fun _ _ => none) ∧ v1.ownBlock ≠ some mp ∧ mp ≠ B ∧ w.heap.size ≤ mp) ⟨P_4.out.set5, S_4.out.trans PStep.set (fun _ _ q => q), ⟨M_4.out.1.keeps ((Keeps.refl (fun i => i = B) _).setCell (.inl rfl) _) M_4.out.2.2.1, M_4.out.2⟩⟩ ?_
      rintro x5 ⟨hP, hS, hM⟩
      have P_5 := Lib.hid hP
      have S_5 := Lib.hid hS
      have M_5 := Lib.hid hM
      clear hM
      clear hP hS P_4 S_4 M_4
      have hHeld : x5.cell? ⟨B, 2, none⟩ = some (.int .i64 (wd : Int)) ∧ x5.cell? ⟨B, 2, none⟩ = some (.int .i64 (wd : Int)) := ⟨P_5.out.c2, P_5.out.c2⟩
      refine wpAnyH_done (by kernel_rfl) ?_ _
      clear hHeld
      go_wp2_with fail
      go_end0
      exact ⟨rfl, v1, mp, P_5.out, M_5.out.1, M_5.out.2.2.1, M_5.out.2.1, M_5.out.2.2.2, S_5.out⟩
end Go.Proofs.YtdeiolagnheihaaDoor
