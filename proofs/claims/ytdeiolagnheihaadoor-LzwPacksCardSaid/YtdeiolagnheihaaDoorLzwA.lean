/- lzw.packer: add. -/
import Derived.Test.YtdeiolagnheihaaDoorLzwK
import Derived.Test.YtdeiolagnheihaaDoorLzwC
import Derived.Deep.RegionHeld3
import Derived.RegionTactic
import Derived.Outline
import Derived.Deep.DeepCutAuto
namespace Go.Proofs.YtdeiolagnheihaaDoor
open Go.RowKit
set_option maxRecDepth 100000
def nsz (next size : Nat) : Nat := if next = 2 ^ size ∧ size < 12 then size + 1 else size
set_option linter.unusedSimpArgs false in
set_option maxHeartbeats 2000000 in
theorem padd_more (B V n wd size next k b m mp : Nat) (v : Value) (gm : Nat → Nat → Option Nat) (w : World) (h : PB w B v V n (.int .i64 (wd : Int)) (.int .i64 (size : Int)) (.int .i64 (next : Int)) (.map (some mp))) (hm : MK w mp m gm) (hg : gm k b = none) (hv : v.ownBlock ≠ some mp) (hmB : mp ≠ B) (hk : k ≤ 1000000) (hb : b < 256) (hs : size ≤ 12) (hnx : next < 4096) (hf : next + 1 ≠ 4096) :
    Calls Tryd.prog 42 #[.pointer (some ⟨B, 0, none⟩), .agg #[.int .i64 (k : Int), .int .u8 (b : Int)]] w fun e w' => e = .returned (.tuple #[]) ∧ PB w' B v V n (.int .i64 (wd : Int)) (.int .i64 ((nsz next size : Nat) : Int)) (.int .i64 ((next : Int) + 1)) (.map (some mp)) ∧ MK w' mp (m + 1) (updK gm k b next) ∧ PStep w w' B v v (fun i => i = mp) := by
  have HM := Lib.hid hm
  have HG := Lib.hid hg
  have HV := Lib.hid (And.intro hv hmB)
  have HBl := Lib.hid (And.intro h.lt hm.lt)
  obtain ⟨T, hT⟩ : ∃ T : Nat, 2 ^ size = T := ⟨_, rfl⟩
  have hTl : T ≤ 4096 := by rw [← hT]; exact Nat.le_trans (Nat.pow_le_pow_right (by decide) hs) (by decide)
  have hTI := pow_int hT
  have HT := Lib.hid hT
  have HP := Lib.hid h
  clear h hm hg hv hmB hT
  go_enter Tryd.func42, Tryd.ntmps42
  go_wp2_with fail
  refine wp_world (fun wz => Ext w wz ∧ Bk wz w.heap.size #[.int .i64 (k : Int), .int .u8 (b : Int)]) ⟨(Ext.refl _).alloc _, Bk.at rfl⟩ ?_
  rintro w1 ⟨hX, hB⟩
  have HB := Lib.hid hB
  have HX := Lib.hid hX
  have HP1 := Lib.hid (HP.out.ext hX)
  have HM1 := Lib.hid (HM.out.ext hX)
  clear hX hB HP HM
  have P_0 := Lib.hid (HP1.out)
  have M_0 := Lib.hid (HM1.out)
  have K_0 := Lib.hid (HB.out)
  have Y_0 := Lib.hid (HX.out)
  clear HP1 HM1 HB
  refine wp_region_held_drew (S := fun w' => w'.cell? ⟨B, 5, none⟩ = some (.map (some mp)) ∧ w'.cell? ⟨B, 4, none⟩ = some (.int .i64 (next : Int)) ∧ w'.cell? ⟨w.heap.size, 0, none⟩ = some (.int .i64 (k : Int)) ∧ w'.cell? ⟨w.heap.size, 1, none⟩ = some (.int .u8 (b : Int))) (by kernel_rfl) ⟨P_0.out.c5, P_0.out.c4, K_0.out.cell 0, K_0.out.cell 1⟩ (fun hHeld => ?_)
  clear hHeld
  refine anyH_world (fun wz => Ext w1 wz) (show Ext w1 w1.drew from Below.drew (Ext.refl w1)) ?_
  rintro w1 h
  have P_1 := Lib.hid (P_0.out.ext h)
  have M_1 := Lib.hid (M_0.out.ext h)
  have K_1 := Lib.hid (K_0.out.ext h)
  have Y_1 := Lib.hid (Y_0.out.trans h)
  clear h P_0 M_0 K_0 Y_0
  have hHeld : w1.cell? ⟨B, 5, none⟩ = some (.map (some mp)) ∧ w1.cell? ⟨B, 4, none⟩ = some (.int .i64 (next : Int)) ∧ w1.cell? ⟨w.heap.size, 0, none⟩ = some (.int .i64 (k : Int)) ∧ w1.cell? ⟨w.heap.size, 1, none⟩ = some (.int .u8 (b : Int)) := ⟨P_1.out.c5, P_1.out.c4, K_1.out.cell 0, K_1.out.cell 1⟩
  refine wpAnyH_take (i := 0) (v := ?_) rfl (by kernel_rfl) (by kernel_rfl) (by kernel_rfl) (fun _ _ _ h => h) (Or.inl ⟨by kernel_rfl, ?_⟩) hHeld ?_
  rotate_left
  · intro w hSw
    (try dsimp only at hSw)
    go_split_ands
    go_simp
    (try with_reducible rfl)
  try simp only [Act.put, List.getElem_toArray, List.getElem_cons_succ, List.getElem_cons_zero, List.setIfInBounds_toArray, List.set_cons_zero, List.set_cons_succ]
  refine wpAnyH_take (i := 1) (v := ?_) rfl (by kernel_rfl) (by kernel_rfl) (by kernel_rfl) (fun _ _ _ h => h) (Or.inl ⟨by kernel_rfl, ?_⟩) hHeld ?_
  rotate_left
  · intro w hSw
    (try dsimp only at hSw)
    go_split_ands
    go_simp
    (try with_reducible rfl)
  try simp only [Act.put, List.getElem_toArray, List.getElem_cons_succ, List.getElem_cons_zero, List.setIfInBounds_toArray, List.set_cons_zero, List.set_cons_succ]
  refine wpAnyH_take (i := 2) (v := ?_) rfl (by kernel_rfl) (by kernel_rfl) (by kernel_rfl) (fun _ _ _ h => h) (Or.inl ⟨by kernel_rfl, ?_⟩) hHeld ?_
  rotate_left
  · intro w hSw
    (try dsimp only at hSw)
    go_split_ands
    go_simp
    (try with_reducible rfl)
  try simp only [Act.put, List.getElem_toArray, List.getElem_cons_succ, List.getElem_cons_zero, List.setIfInBounds_toArray, List.set_cons_zero, List.set_cons_succ]
  refine wpAnyH_take (i := 3) (v := ?_) rfl (by kernel_rfl) (by kernel_rfl) (by kernel_rfl) (fun _ _ _ h => h) (Or.inl ⟨by kernel_rfl, ?_⟩) hHeld ?_
  rotate_left
  · intro w hSw
    (try dsimp only at hSw)
    go_split_ands
    go_simp
    (try with_reducible rfl)
  try simp only [Act.put, List.getElem_toArray, List.getElem_cons_succ, List.getElem_cons_zero, List.setIfInBounds_toArray, List.set_cons_zero, List.set_cons_succ]
  refine wpAnyH_take (i := 4) (v := ?_) rfl (by kernel_rfl) (by kernel_rfl) (by kernel_rfl) (fun _ _ _ h => h) (Or.inl ⟨by kernel_rfl, ?_⟩) hHeld ?_
  rotate_left
  · intro w hSw
    (try dsimp only at hSw)
    go_split_ands
    go_simp
    (try with_reducible rfl)
  try simp only [Act.put, List.getElem_toArray, List.getElem_cons_succ, List.getElem_cons_zero, List.setIfInBounds_toArray, List.set_cons_zero, List.set_cons_succ]
  refine wpAnyH_take (i := 5) (v := ?_) rfl (by kernel_rfl) (by kernel_rfl) (by kernel_rfl) (fun _ _ _ h => h) (Or.inl ⟨by kernel_rfl, ?_⟩) hHeld ?_
  rotate_left
  · intro w hSw
    (try dsimp only at hSw)
    go_split_ands
    go_simp
    (try with_reducible rfl)
  try simp only [Act.put, List.getElem_toArray, List.getElem_cons_succ, List.getElem_cons_zero, List.setIfInBounds_toArray, List.set_cons_zero, List.set_cons_succ]
  refine wpAnyH_take (i := 6) (v := ?_) rfl (by kernel_rfl) (by kernel_rfl) (by kernel_rfl) (fun _ _ _ h => h) (Or.inl ⟨by kernel_rfl, ?_⟩) hHeld ?_
  rotate_left
  · intro w hSw
    (try dsimp only at hSw)
    go_split_ands
    go_simp
    (try with_reducible rfl)
  try simp only [Act.put, List.getElem_toArray, List.getElem_cons_succ, List.getElem_cons_zero, List.setIfInBounds_toArray, List.set_cons_zero, List.set_cons_succ]
  refine wpAnyH_take (i := 7) (v := ?_) rfl (by kernel_rfl) (by kernel_rfl) (by kernel_rfl) (fun _ _ _ h => h) (Or.inl ⟨by kernel_rfl, ?_⟩) hHeld ?_
  rotate_left
  · intro w hSw
    (try dsimp only at hSw)
    go_split_ands
    go_simp
    (try with_reducible rfl)
  try simp only [Act.put, List.getElem_toArray, List.getElem_cons_succ, List.getElem_cons_zero, List.setIfInBounds_toArray, List.set_cons_zero, List.set_cons_succ]
  refine wpAnyH_take (i := 8) (v := ?_) rfl (by kernel_rfl) (by kernel_rfl) (by kernel_rfl) (fun _ _ _ h => h) (Or.inl ⟨by kernel_rfl, ?_⟩) hHeld ?_
  rotate_left
  · intro w hSw
    (try dsimp only at hSw)
    go_split_ands
    go_simp
    (try with_reducible rfl)
  try simp only [Act.put, List.getElem_toArray, List.getElem_cons_succ, List.getElem_cons_zero, List.setIfInBounds_toArray, List.set_cons_zero, List.set_cons_succ]
  refine wpAnyH_ready (rs := [9]) (by kernel_rfl) (by simp) ?_
  refine AllReadyH.cons rfl (fun KK hK => ?_) AllReadyH.nil
  clear hHeld
  obtain ⟨w5, hrun, hM5, hK5⟩ := M_1.out.store (n := next) hk hb HG.out
  have P5 := Lib.hid (P_1.out.keeps hK5 (fun e => HV.out.2 e.symm) (fun i hi e => HV.out.1 (e ▸ hi)))
  have K5 := Lib.hid (K_1.out.keeps hK5 (fun e => by have := HBl.out.2; omega))
  have M5 := Lib.hid hM5
  have S5 := Lib.hid ((PStep.ext (B := B) (v := v) (M := fun i => i = mp) Y_1.out).trans (⟨hK5.mono (fun _ _ q => .inr (.inr q)), fun _ q => .inl q⟩ : PStep _ w5 B v v (fun i => i = mp)) (fun _ _ q => q))
  unfold kv at hrun
  go_simp
  refine hK.out _ _ ⟨P5.out.c5, P5.out.c4, K5.out.cell 0, K5.out.cell 1⟩ (fun hHeld => ?_)
  clear hK KK hrun hM5 hK5
  try simp only [Act.put, List.getElem_toArray, List.getElem_cons_succ, List.getElem_cons_zero, List.setIfInBounds_toArray, List.set_cons_zero, List.set_cons_succ]
  refine wpAnyH_done (by kernel_rfl) ?_ _
  clear hHeld
  clear P_1 M_1 K_1 Y_1 K5 HBl HX
  have k3 := P5.out.c3
  have k4 := P5.out.c4
  have k5 := P5.out.c5
  have e3 := P5.out.f3
  have e4 := P5.out.f4
  have hw1 : IntKind.i64.wrap (T : Int) = (T : Int) := wrap_i (by omega) (by omega)
  have tf : ((next : Int) + 1 == 4096) = false := beq_eq_false_iff_ne.2 (by omega)
  by_cases hgq : next = T
  · subst hgq
    by_cases h12 : (size : Int) < 12
    · have HE : Hid (nsz next size = size + 1) := Lib.hid (if_pos ⟨HT.out.symm, by omega⟩)
      have Q1 := P5.out.set3 (x := .int .i64 ((size : Int) + 1))
      have Q2 := Q1.set4 (x := .int .i64 ((next : Int) + 1))
      have S6 := Lib.hid ((S5.out.trans (PStep.set (j := 3) (x := .int .i64 ((size : Int) + 1)) (M := fun i => i = mp)) (fun _ _ q => q)).trans (PStep.set (j := 4) (x := .int .i64 ((next : Int) + 1)) (M := fun i => i = mp)) (fun _ _ q => q))
      have M6 := Lib.hid (M5.out.keeps ((Keeps.refl (fun i => i = B) w5).setCell (.inl rfl) (p := ⟨B, 3, none⟩) (.int .i64 ((size : Int) + 1))) HV.out.2)
      have M7 := Lib.hid (M6.out.keeps ((Keeps.refl (fun i => i = B) _).setCell (.inl rfl) (p := ⟨B, 4, none⟩) (.int .i64 ((next : Int) + 1))) HV.out.2)
      have P6 := Lib.hid Q2
      clear Q1 Q2 M6 M5 P5 S5
      go_wp2_with fail
      go_quiet (fail)
      go_wp2_with fail
      go_end0
      refine ⟨rfl, ?_, ?_, ?_⟩
      · rw [HE.out]; exact P6.out.same
      · exact M7.out.same
      · exact S6.out.same
    · have HE : Hid (nsz next size = size) := Lib.hid (if_neg (fun h => by omega))
      have Q2 := P5.out.set4 (x := .int .i64 ((next : Int) + 1))
      have S6 := Lib.hid (S5.out.trans (PStep.set (j := 4) (x := .int .i64 ((next : Int) + 1)) (M := fun i => i = mp)) (fun _ _ q => q))
      have M7 := Lib.hid (M5.out.keeps ((Keeps.refl (fun i => i = B) w5).setCell (.inl rfl) (p := ⟨B, 4, none⟩) (.int .i64 ((next : Int) + 1))) HV.out.2)
      have P6 := Lib.hid Q2
      clear Q2 M5 P5 S5
      go_wp2_with fail
      go_quiet (fail)
      go_wp2_with fail
      go_end0
      refine ⟨rfl, ?_, ?_, ?_⟩
      · rw [HE.out]; exact P6.out.same
      · exact M7.out.same
      · exact S6.out.same
  · have t1 : ((next : Int) == (T : Int)) = false := beq_eq_false_iff_ne.2 (by omega)
    have HE : Hid (nsz next size = size) := Lib.hid (if_neg (fun h => hgq (h.1.trans HT.out)))
    clear hgq
    have Q2 := P5.out.set4 (x := .int .i64 ((next : Int) + 1))
    have S6 := Lib.hid (S5.out.trans (PStep.set (j := 4) (x := .int .i64 ((next : Int) + 1)) (M := fun i => i = mp)) (fun _ _ q => q))
    have M7 := Lib.hid (M5.out.keeps ((Keeps.refl (fun i => i = B) w5).setCell (.inl rfl) (p := ⟨B, 4, none⟩) (.int .i64 ((next : Int) + 1))) HV.out.2)
    have P6 := Lib.hid Q2
    clear Q2 M5 P5 S5
    go_wp2_with fail
    go_quiet (fail)
    go_wp2_with fail
    go_end0
    refine ⟨rfl, ?_, ?_, ?_⟩
    · rw [HE.out]; exact P6.out.same
    · exact M7.out.same
    · exact S6.out.same
set_option linter.unusedSimpArgs false in
set_option maxHeartbeats 2000000 in
theorem padd_full (B V n wd size next k b m mp : Nat) (v : Value) (gm : Nat → Nat → Option Nat) (w : World) (h : PB w B v V n (.int .i64 (wd : Int)) (.int .i64 (size : Int)) (.int .i64 (next : Int)) (.map (some mp))) (hm : MK w mp m gm) (hg : gm k b = none) (hv : v.ownBlock ≠ some mp) (hmB : mp ≠ B) (hk : k ≤ 1000000) (hb : b < 256) (hs : size ≤ 12) (hnx : next < 4096) (hf : next = 4095) (hTn : 2 ^ size ≠ 4095) (h2 : 2 ≤ wd) (h8 : wd ≤ 8) (hx : 2 ^ wd < 2 ^ size) (hn : n ≤ 100000000) :
    Calls Tryd.prog 42 #[.pointer (some ⟨B, 0, none⟩), .agg #[.int .i64 (k : Int), .int .u8 (b : Int)]] w fun e w' => e = .returned (.tuple #[]) ∧ ∃ v' mp', PB w' B v' (V + 2 ^ wd * 2 ^ n) (n + size) (.int .i64 (wd : Int)) (.int .i64 ((wd : Int) + 1)) (.int .i64 (((2 ^ wd : Nat) : Int) + 2)) (.map (some mp')) ∧ MK w' mp' 0 (fun _ _ => none) ∧ mp' ≠ B ∧ v'.ownBlock ≠ some mp' ∧ w.heap.size ≤ mp' ∧ PStep w w' B v v' (fun i => i = mp) := by
  have HM := Lib.hid hm
  have HG := Lib.hid hg
  have HV := Lib.hid (And.intro hv hmB)
  have HBl := Lib.hid (And.intro h.lt hm.lt)
  obtain ⟨T, hT⟩ : ∃ T : Nat, 2 ^ size = T := ⟨_, rfl⟩
  have hTl : T ≤ 4096 := by rw [← hT]; exact Nat.le_trans (Nat.pow_le_pow_right (by decide) hs) (by decide)
  have hTI := pow_int hT
  have HT := Lib.hid hT
  have HP := Lib.hid h
  clear h hm hg hv hmB hT
  have HF := Lib.hid hf
  have hlo : 4095 ≤ next := by omega
  have HTn := Lib.hid hTn
  have HX2 := Lib.hid hx
  clear hf hTn hx
  go_enter Tryd.func42, Tryd.ntmps42
  go_wp2_with fail
  refine wp_world (fun wz => Ext w wz ∧ Bk wz w.heap.size #[.int .i64 (k : Int), .int .u8 (b : Int)]) ⟨(Ext.refl _).alloc _, Bk.at rfl⟩ ?_
  rintro w1 ⟨hX, hB⟩
  have HB := Lib.hid hB
  have HX := Lib.hid hX
  have HP1 := Lib.hid (HP.out.ext hX)
  have HM1 := Lib.hid (HM.out.ext hX)
  clear hX hB HP HM
  have P_0 := Lib.hid (HP1.out)
  have M_0 := Lib.hid (HM1.out)
  have K_0 := Lib.hid (HB.out)
  have Y_0 := Lib.hid (HX.out)
  clear HP1 HM1 HB
  refine wp_region_held_drew (S := fun w' => w'.cell? ⟨B, 5, none⟩ = some (.map (some mp)) ∧ w'.cell? ⟨B, 4, none⟩ = some (.int .i64 (next : Int)) ∧ w'.cell? ⟨w.heap.size, 0, none⟩ = some (.int .i64 (k : Int)) ∧ w'.cell? ⟨w.heap.size, 1, none⟩ = some (.int .u8 (b : Int))) (by kernel_rfl) ⟨P_0.out.c5, P_0.out.c4, K_0.out.cell 0, K_0.out.cell 1⟩ (fun hHeld => ?_)
  clear hHeld
  refine anyH_world (fun wz => Ext w1 wz) (show Ext w1 w1.drew from Below.drew (Ext.refl w1)) ?_
  rintro w1 h
  have P_1 := Lib.hid (P_0.out.ext h)
  have M_1 := Lib.hid (M_0.out.ext h)
  have K_1 := Lib.hid (K_0.out.ext h)
  have Y_1 := Lib.hid (Y_0.out.trans h)
  clear h P_0 M_0 K_0 Y_0
  have hHeld : w1.cell? ⟨B, 5, none⟩ = some (.map (some mp)) ∧ w1.cell? ⟨B, 4, none⟩ = some (.int .i64 (next : Int)) ∧ w1.cell? ⟨w.heap.size, 0, none⟩ = some (.int .i64 (k : Int)) ∧ w1.cell? ⟨w.heap.size, 1, none⟩ = some (.int .u8 (b : Int)) := ⟨P_1.out.c5, P_1.out.c4, K_1.out.cell 0, K_1.out.cell 1⟩
  refine wpAnyH_take (i := 0) (v := ?_) rfl (by kernel_rfl) (by kernel_rfl) (by kernel_rfl) (fun _ _ _ h => h) (Or.inl ⟨by kernel_rfl, ?_⟩) hHeld ?_
  rotate_left
  · intro w hSw
    (try dsimp only at hSw)
    go_split_ands
    go_simp
    (try with_reducible rfl)
  try simp only [Act.put, List.getElem_toArray, List.getElem_cons_succ, List.getElem_cons_zero, List.setIfInBounds_toArray, List.set_cons_zero, List.set_cons_succ]
  refine wpAnyH_take (i := 1) (v := ?_) rfl (by kernel_rfl) (by kernel_rfl) (by kernel_rfl) (fun _ _ _ h => h) (Or.inl ⟨by kernel_rfl, ?_⟩) hHeld ?_
  rotate_left
  · intro w hSw
    (try dsimp only at hSw)
    go_split_ands
    go_simp
    (try with_reducible rfl)
  try simp only [Act.put, List.getElem_toArray, List.getElem_cons_succ, List.getElem_cons_zero, List.setIfInBounds_toArray, List.set_cons_zero, List.set_cons_succ]
  refine wpAnyH_take (i := 2) (v := ?_) rfl (by kernel_rfl) (by kernel_rfl) (by kernel_rfl) (fun _ _ _ h => h) (Or.inl ⟨by kernel_rfl, ?_⟩) hHeld ?_
  rotate_left
  · intro w hSw
    (try dsimp only at hSw)
    go_split_ands
    go_simp
    (try with_reducible rfl)
  try simp only [Act.put, List.getElem_toArray, List.getElem_cons_succ, List.getElem_cons_zero, List.setIfInBounds_toArray, List.set_cons_zero, List.set_cons_succ]
  refine wpAnyH_take (i := 3) (v := ?_) rfl (by kernel_rfl) (by kernel_rfl) (by kernel_rfl) (fun _ _ _ h => h) (Or.inl ⟨by kernel_rfl, ?_⟩) hHeld ?_
  rotate_left
  · intro w hSw
    (try dsimp only at hSw)
    go_split_ands
    go_simp
    (try with_reducible rfl)
  try simp only [Act.put, List.getElem_toArray, List.getElem_cons_succ, List.getElem_cons_zero, List.setIfInBounds_toArray, List.set_cons_zero, List.set_cons_succ]
  refine wpAnyH_take (i := 4) (v := ?_) rfl (by kernel_rfl) (by kernel_rfl) (by kernel_rfl) (fun _ _ _ h => h) (Or.inl ⟨by kernel_rfl, ?_⟩) hHeld ?_
  rotate_left
  · intro w hSw
    (try dsimp only at hSw)
    go_split_ands
    go_simp
    (try with_reducible rfl)
  try simp only [Act.put, List.getElem_toArray, List.getElem_cons_succ, List.getElem_cons_zero, List.setIfInBounds_toArray, List.set_cons_zero, List.set_cons_succ]
  refine wpAnyH_take (i := 5) (v := ?_) rfl (by kernel_rfl) (by kernel_rfl) (by kernel_rfl) (fun _ _ _ h => h) (Or.inl ⟨by kernel_rfl, ?_⟩) hHeld ?_
  rotate_left
  · intro w hSw
    (try dsimp only at hSw)
    go_split_ands
    go_simp
    (try with_reducible rfl)
  try simp only [Act.put, List.getElem_toArray, List.getElem_cons_succ, List.getElem_cons_zero, List.setIfInBounds_toArray, List.set_cons_zero, List.set_cons_succ]
  refine wpAnyH_take (i := 6) (v := ?_) rfl (by kernel_rfl) (by kernel_rfl) (by kernel_rfl) (fun _ _ _ h => h) (Or.inl ⟨by kernel_rfl, ?_⟩) hHeld ?_
  rotate_left
  · intro w hSw
    (try dsimp only at hSw)
    go_split_ands
    go_simp
    (try with_reducible rfl)
  try simp only [Act.put, List.getElem_toArray, List.getElem_cons_succ, List.getElem_cons_zero, List.setIfInBounds_toArray, List.set_cons_zero, List.set_cons_succ]
  refine wpAnyH_take (i := 7) (v := ?_) rfl (by kernel_rfl) (by kernel_rfl) (by kernel_rfl) (fun _ _ _ h => h) (Or.inl ⟨by kernel_rfl, ?_⟩) hHeld ?_
  rotate_left
  · intro w hSw
    (try dsimp only at hSw)
    go_split_ands
    go_simp
    (try with_reducible rfl)
  try simp only [Act.put, List.getElem_toArray, List.getElem_cons_succ, List.getElem_cons_zero, List.setIfInBounds_toArray, List.set_cons_zero, List.set_cons_succ]
  refine wpAnyH_take (i := 8) (v := ?_) rfl (by kernel_rfl) (by kernel_rfl) (by kernel_rfl) (fun _ _ _ h => h) (Or.inl ⟨by kernel_rfl, ?_⟩) hHeld ?_
  rotate_left
  · intro w hSw
    (try dsimp only at hSw)
    go_split_ands
    go_simp
    (try with_reducible rfl)
  try simp only [Act.put, List.getElem_toArray, List.getElem_cons_succ, List.getElem_cons_zero, List.setIfInBounds_toArray, List.set_cons_zero, List.set_cons_succ]
  refine wpAnyH_ready (rs := [9]) (by kernel_rfl) (by simp) ?_
  refine AllReadyH.cons rfl (fun KK hK => ?_) AllReadyH.nil
  clear hHeld
  obtain ⟨w5, hrun, hM5, hK5⟩ := M_1.out.store (n := next) hk hb HG.out
  have P5 := Lib.hid (P_1.out.keeps hK5 (fun e => HV.out.2 e.symm) (fun i hi e => HV.out.1 (e ▸ hi)))
  have K5 := Lib.hid (K_1.out.keeps hK5 (fun e => by have := HBl.out.2; omega))
  have M5 := Lib.hid hM5
  have S5 := Lib.hid ((PStep.ext (B := B) (v := v) (M := fun i => i = mp) Y_1.out).trans (⟨hK5.mono (fun _ _ q => .inr (.inr q)), fun _ q => .inl q⟩ : PStep _ w5 B v v (fun i => i = mp)) (fun _ _ q => q))
  unfold kv at hrun
  go_simp
  refine hK.out _ _ ⟨P5.out.c5, P5.out.c4, K5.out.cell 0, K5.out.cell 1⟩ (fun hHeld => ?_)
  clear hK KK hrun hM5 hK5
  try simp only [Act.put, List.getElem_toArray, List.getElem_cons_succ, List.getElem_cons_zero, List.setIfInBounds_toArray, List.set_cons_zero, List.set_cons_succ]
  refine wpAnyH_done (by kernel_rfl) ?_ _
  clear hHeld
  clear P_1 M_1 K_1 Y_1 K5 HBl HX
  have k3 := P5.out.c3
  have k4 := P5.out.c4
  have k5 := P5.out.c5
  have e3 := P5.out.f3
  have e4 := P5.out.f4
  have hw1 : IntKind.i64.wrap (T : Int) = (T : Int) := wrap_i (by omega) (by omega)
  have t1 : ((next : Int) == (T : Int)) = false := beq_eq_false_iff_ne.2 (fun e => HTn.out (HT.out.trans (by omega)))
  have tf : ((next : Int) + 1 == 4096) = true := beq_iff_eq.2 (by omega)
  have Q2 := P5.out.set4 (x := .int .i64 ((next : Int) + 1))
  have S6 := Lib.hid (S5.out.trans (PStep.set (j := 4) (x := .int .i64 ((next : Int) + 1)) (M := fun i => i = mp)) (fun _ _ q => q))
  have M7 := Lib.hid (M5.out.keeps ((Keeps.refl (fun i => i = B) w5).setCell (.inl rfl) (p := ⟨B, 4, none⟩) (.int .i64 ((next : Int) + 1))) HV.out.2)
  have P6 := Lib.hid Q2
  clear Q2 M5 P5 S5
  go_wp2_with fail
  go_quiet (fail)
  go_wp2_with fail
  refine (pclear_any B V n wd size (next + 1) v (.map (some mp)) _ P6.out.same h2 h8 hs HX2.out hn).mono ?_
  rintro e w7 ⟨rfl, v7, mp7, q1, q2, q3, q4, q5, q6⟩
  go_wp2_with fail
  go_end0
  exact ⟨rfl, v7, mp7, q1, q2, q3, q4, Nat.le_trans S6.out.keeps.size q5, S6.out.same.trans q6 (fun _ _ q => q.elim)⟩
end Go.Proofs.YtdeiolagnheihaaDoor
