/-
  Contracts of package pixel's Over, and of what it calls: what they compute; new blocks alone are made.
  What Over's own variables hold while it runs.
  Contract of pixel.Over at mode 0: what it computes; new blocks alone are made.
  Contract of pixel.Over at mode 1: what it computes; new blocks alone are made.
  Contract of pixel.Over at mode 2: what it computes; new blocks alone are made.
  Contract of pixel.Over at mode 3: what it computes; new blocks alone are made.
  Contract of pixel.Over at mode 4: what it computes; new blocks alone are made.
  Contract of pixel.Over at mode 5: what it computes; new blocks alone are made.
  Contract of pixel.Over at every mode there is, whatever the pixels.
  A picture on another one: its pixels. No function of the program is named.
-/
import Derived.Test.YtkfjcgcgfdibaaaDoorRasterFloodsG1
import Derived.Laws.EntriesVeiled
import Derived.StillTailTactics
import Derived.Deep.RegionHeld3
import Derived.Deep.DeepCutAuto
import Derived.Test.YtkfjcgcgfdibaaaDoorRasterFloodsG10
namespace Go.Proofs.YtkfjcgcgfdibaaaDoor
open Go.RowKit
theorem round_any (n d : Int) (w : World) (h0 : 0 ≤ n) (h1 : n ≤ 1000000000000) (d0 : 1 ≤ d) (d1 : d ≤ 1000000000000) :
    Calls Tryd.prog 101 #[.int .i64 n, .int .i64 d] w fun e w' => e = .returned (.int .u8 (Pix.rnd n d)) ∧ w = w' := by
  go_enter Tryd.func101, Tryd.ntmps101
  go_wp2
  go_ret
  exact ⟨rfl, rfl⟩
theorem mode_any (m : Int) (w : World) : Calls Tryd.prog 71 #[.int .i64 m] w fun e w' => e = .returned (.bool (decide (0 ≤ m) && decide (m < 6))) ∧ w = w' := by
  go_enter Tryd.func71, Tryd.ntmps71
  go_wp2
  all_goals go_ret
  all_goals (refine ⟨ret_bool ?_, rfl⟩; simp; omega)
theorem blend0_any (s d : Int) (w : World) (hs : Pix.Byte s) (_hd : Pix.Byte d) : Calls Tryd.prog 115 #[.int .i64 s, .int .i64 d] w fun e w' => e = .returned (.int .i64 (Pix.blend 0 s d)) ∧ w = w' := by
  obtain ⟨s0, s1⟩ := hs
  go_enter Tryd.func115, Tryd.ntmps115
  go_wp2
  go_ret
  exact ⟨rfl, rfl⟩
theorem blend1_any (s d : Int) (w : World) (hs : Pix.Byte s) (hd : Pix.Byte d) : Calls Tryd.prog 116 #[.int .i64 s, .int .i64 d] w fun e w' => e = .returned (.int .i64 (Pix.blend 1 s d)) ∧ w = w' := by
  obtain ⟨p0, p1⟩ := Pix.mul_bd hs.1 hs.2 hd.1 hd.2
  go_enter Tryd.func116, Tryd.ntmps116
  go_wp2
  go_ret
  exact ⟨rfl, rfl⟩
theorem blend2_any (s d : Int) (w : World) (hs : Pix.Byte s) (hd : Pix.Byte d) : Calls Tryd.prog 117 #[.int .i64 s, .int .i64 d] w fun e w' => e = .returned (.int .i64 (Pix.blend 2 s d)) ∧ w = w' := by
  obtain ⟨p0, p1⟩ := Pix.mul_bd hs.1 hs.2 hd.1 hd.2
  obtain ⟨s0, s1⟩ := hs
  obtain ⟨d0, d1⟩ := hd
  go_enter Tryd.func117, Tryd.ntmps117
  go_wp2
  go_ret
  exact ⟨rfl, rfl⟩
theorem blend3_any (s d : Int) (w : World) (hs : Pix.Byte s) (hd : Pix.Byte d) : Calls Tryd.prog 118 #[.int .i64 s, .int .i64 d] w fun e w' => e = .returned (.int .i64 (Pix.blend 3 s d)) ∧ w = w' := by
  obtain ⟨s0, s1⟩ := hs
  obtain ⟨d0, d1⟩ := hd
  go_enter Tryd.func118, Tryd.ntmps118
  go_wp2
  all_goals (go_ret; exact ⟨ret_int (by simp [Pix.blend]; omega), rfl⟩)
theorem blend4_any (s d : Int) (w : World) (hs : Pix.Byte s) (hd : Pix.Byte d) : Calls Tryd.prog 119 #[.int .i64 s, .int .i64 d] w fun e w' => e = .returned (.int .i64 (Pix.blend 4 s d)) ∧ w = w' := by
  obtain ⟨s0, s1⟩ := hs
  obtain ⟨d0, d1⟩ := hd
  go_enter Tryd.func119, Tryd.ntmps119
  go_wp2
  all_goals (go_ret; exact ⟨ret_int (by simp [Pix.blend]; omega), rfl⟩)
theorem blend5_any (s d : Int) (w : World) (hs : Pix.Byte s) (hd : Pix.Byte d) : Calls Tryd.prog 120 #[.int .i64 s, .int .i64 d] w fun e w' => e = .returned (.int .i64 (Pix.blend 5 s d)) ∧ w = w' := by
  obtain ⟨s0, s1⟩ := hs
  obtain ⟨d0, d1⟩ := hd
  go_enter Tryd.func120, Tryd.ntmps120
  go_wp2
  all_goals (go_ret; exact ⟨ret_int (by simp [Pix.blend]; omega), rfl⟩)

theorem blends_any (w : World) : Calls Tryd.prog 99 #[] w fun e w' => e = .returned (.agg #[.func (.func 115) #[] #[], .func (.func 116) #[] #[], .func (.func 117) #[] #[], .func (.func 118) #[] #[], .func (.func 119) #[] #[], .func (.func 120) #[] #[]]) ∧ Below w.heap.size w w' := by
  go_enter Tryd.func99, Tryd.ntmps99
  go_wp2
  exact bodyPost_ret (v := .agg #[.func (.func 115) #[] #[], .func (.func 116) #[] #[], .func (.func 117) #[] #[], .func (.func 118) #[] #[], .func (.func 119) #[] #[], .func (.func 120) #[] #[]]) (by simp [results, Tryd.results99, go_sem]) rfl ⟨rfl, (Below.refl _ _).alloc (Nat.le_refl _) _⟩
/-- what the closure of Over captures: four variables, as they stand -/
def ColorCells (w : World) (pa pb pf pc : Addr) (a b c : Int) (f : FuncId) : Prop :=
  w.cell? pa = some (.int .i64 a) ∧ w.cell? pb = some (.int .i64 b) ∧ w.cell? pf = some (.func (.func f) #[] #[]) ∧ w.cell? pc = some (.int .i64 c)
set_option maxHeartbeats 1000000 in
theorem color0_any (s d a b : Int) (pa pb pf pc : Addr) (w : World) (hs : Pix.Byte s) (hd : Pix.Byte d) (ha : Pix.Byte a) (hb : Pix.Byte b) (hc : 1 ≤ Pix.covers a b)
    (hcells : ColorCells w pa pb pf pc a b (Pix.covers a b) 115) :
    Calls Tryd.prog 100 #[.int .u8 s, .int .u8 d, .pointer (some pa), .pointer (some pb), .pointer (some pf), .pointer (some pc)] w fun e w' => e = .returned (.int .u8 (Pix.color 0 a b s d)) ∧ ∃ n, w' = w.drewN n := by
  obtain ⟨h1, h2, h3, h4⟩ := hcells
  have hbl := Pix.blend_bd (m := 0) hs hd
  have hcv := Pix.covers_bd ha hb
  have hn := Pix.num_bd (m := 0) ha hb hs hd
  unfold Pix.num at hn
  have HB := Lib.hid (fun W => blend0_any s d W hs hd)
  obtain ⟨s0, s1⟩ := hs
  obtain ⟨d0, d1⟩ := hd
  obtain ⟨a0, a1⟩ := ha
  obtain ⟨b0, b1⟩ := hb
  have p1 := Pix.mul_bd a0 a1 (show 0 ≤ 255 - b by omega) (show 255 - b ≤ 255 by omega)
  have p2 := Pix.mul_bd b0 b1 (show 0 ≤ 255 - a by omega) (show 255 - a ≤ 255 by omega)
  have p3 := Pix.mul_bd a0 a1 b0 b1
  have q1 := Pix.mul_bd p1.1 p1.2 s0 s1
  have q2 := Pix.mul_bd p2.1 p2.2 d0 d1
  have q3 := Pix.mul_bd p3.1 p3.2 hbl.1 hbl.2
  have HF : Hid (Pix.color 0 a b s d = Pix.rnd (255 * (a * (255 - b) * s + b * (255 - a) * d) + a * b * Pix.blend 0 s d) (255 * Pix.covers a b)) := rfl
  generalize Pix.covers a b = c at *
  generalize Pix.blend 0 s d = t at *
  go_enter Tryd.func100, Tryd.ntmps100
  go_wp2
  go_quiet ((first | (go_at_call 115; exact (HB.out _).mono fun _ _ ⟨he, hm⟩ => ⟨he, _, hm.symm⟩) | (go_at_call 101; exact (round_any _ _ _ (by omega) (by omega) (by omega) (by omega)).mono fun _ _ ⟨he, hm⟩ => ⟨he, _, hm.symm⟩)))
  go_wp2
  go_ret
  exact ⟨by rw [HF.out]; rfl, _, rfl⟩
set_option maxHeartbeats 1000000 in
theorem color1_any (s d a b : Int) (pa pb pf pc : Addr) (w : World) (hs : Pix.Byte s) (hd : Pix.Byte d) (ha : Pix.Byte a) (hb : Pix.Byte b) (hc : 1 ≤ Pix.covers a b)
    (hcells : ColorCells w pa pb pf pc a b (Pix.covers a b) 116) :
    Calls Tryd.prog 100 #[.int .u8 s, .int .u8 d, .pointer (some pa), .pointer (some pb), .pointer (some pf), .pointer (some pc)] w fun e w' => e = .returned (.int .u8 (Pix.color 1 a b s d)) ∧ ∃ n, w' = w.drewN n := by
  obtain ⟨h1, h2, h3, h4⟩ := hcells
  have hbl := Pix.blend_bd (m := 1) hs hd
  have hcv := Pix.covers_bd ha hb
  have hn := Pix.num_bd (m := 1) ha hb hs hd
  unfold Pix.num at hn
  have HB := Lib.hid (fun W => blend1_any s d W hs hd)
  obtain ⟨s0, s1⟩ := hs
  obtain ⟨d0, d1⟩ := hd
  obtain ⟨a0, a1⟩ := ha
  obtain ⟨b0, b1⟩ := hb
  have p1 := Pix.mul_bd a0 a1 (show 0 ≤ 255 - b by omega) (show 255 - b ≤ 255 by omega)
  have p2 := Pix.mul_bd b0 b1 (show 0 ≤ 255 - a by omega) (show 255 - a ≤ 255 by omega)
  have p3 := Pix.mul_bd a0 a1 b0 b1
  have q1 := Pix.mul_bd p1.1 p1.2 s0 s1
  have q2 := Pix.mul_bd p2.1 p2.2 d0 d1
  have q3 := Pix.mul_bd p3.1 p3.2 hbl.1 hbl.2
  have HF : Hid (Pix.color 1 a b s d = Pix.rnd (255 * (a * (255 - b) * s + b * (255 - a) * d) + a * b * Pix.blend 1 s d) (255 * Pix.covers a b)) := rfl
  generalize Pix.covers a b = c at *
  generalize Pix.blend 1 s d = t at *
  go_enter Tryd.func100, Tryd.ntmps100
  go_wp2
  go_quiet ((first | (go_at_call 116; exact (HB.out _).mono fun _ _ ⟨he, hm⟩ => ⟨he, _, hm.symm⟩) | (go_at_call 101; exact (round_any _ _ _ (by omega) (by omega) (by omega) (by omega)).mono fun _ _ ⟨he, hm⟩ => ⟨he, _, hm.symm⟩)))
  go_wp2
  go_ret
  exact ⟨by rw [HF.out]; rfl, _, rfl⟩
set_option maxHeartbeats 1000000 in
theorem color2_any (s d a b : Int) (pa pb pf pc : Addr) (w : World) (hs : Pix.Byte s) (hd : Pix.Byte d) (ha : Pix.Byte a) (hb : Pix.Byte b) (hc : 1 ≤ Pix.covers a b)
    (hcells : ColorCells w pa pb pf pc a b (Pix.covers a b) 117) :
    Calls Tryd.prog 100 #[.int .u8 s, .int .u8 d, .pointer (some pa), .pointer (some pb), .pointer (some pf), .pointer (some pc)] w fun e w' => e = .returned (.int .u8 (Pix.color 2 a b s d)) ∧ ∃ n, w' = w.drewN n := by
  obtain ⟨h1, h2, h3, h4⟩ := hcells
  have hbl := Pix.blend_bd (m := 2) hs hd
  have hcv := Pix.covers_bd ha hb
  have hn := Pix.num_bd (m := 2) ha hb hs hd
  unfold Pix.num at hn
  have HB := Lib.hid (fun W => blend2_any s d W hs hd)
  obtain ⟨s0, s1⟩ := hs
  obtain ⟨d0, d1⟩ := hd
  obtain ⟨a0, a1⟩ := ha
  obtain ⟨b0, b1⟩ := hb
  have p1 := Pix.mul_bd a0 a1 (show 0 ≤ 255 - b by omega) (show 255 - b ≤ 255 by omega)
  have p2 := Pix.mul_bd b0 b1 (show 0 ≤ 255 - a by omega) (show 255 - a ≤ 255 by omega)
  have p3 := Pix.mul_bd a0 a1 b0 b1
  have q1 := Pix.mul_bd p1.1 p1.2 s0 s1
  have q2 := Pix.mul_bd p2.1 p2.2 d0 d1
  have q3 := Pix.mul_bd p3.1 p3.2 hbl.1 hbl.2
  have HF : Hid (Pix.color 2 a b s d = Pix.rnd (255 * (a * (255 - b) * s + b * (255 - a) * d) + a * b * Pix.blend 2 s d) (255 * Pix.covers a b)) := rfl
  generalize Pix.covers a b = c at *
  generalize Pix.blend 2 s d = t at *
  go_enter Tryd.func100, Tryd.ntmps100
  go_wp2
  go_quiet ((first | (go_at_call 117; exact (HB.out _).mono fun _ _ ⟨he, hm⟩ => ⟨he, _, hm.symm⟩) | (go_at_call 101; exact (round_any _ _ _ (by omega) (by omega) (by omega) (by omega)).mono fun _ _ ⟨he, hm⟩ => ⟨he, _, hm.symm⟩)))
  go_wp2
  go_ret
  exact ⟨by rw [HF.out]; rfl, _, rfl⟩
set_option maxHeartbeats 1000000 in
theorem color3_any (s d a b : Int) (pa pb pf pc : Addr) (w : World) (hs : Pix.Byte s) (hd : Pix.Byte d) (ha : Pix.Byte a) (hb : Pix.Byte b) (hc : 1 ≤ Pix.covers a b)
    (hcells : ColorCells w pa pb pf pc a b (Pix.covers a b) 118) :
    Calls Tryd.prog 100 #[.int .u8 s, .int .u8 d, .pointer (some pa), .pointer (some pb), .pointer (some pf), .pointer (some pc)] w fun e w' => e = .returned (.int .u8 (Pix.color 3 a b s d)) ∧ ∃ n, w' = w.drewN n := by
  obtain ⟨h1, h2, h3, h4⟩ := hcells
  have hbl := Pix.blend_bd (m := 3) hs hd
  have hcv := Pix.covers_bd ha hb
  have hn := Pix.num_bd (m := 3) ha hb hs hd
  unfold Pix.num at hn
  have HB := Lib.hid (fun W => blend3_any s d W hs hd)
  obtain ⟨s0, s1⟩ := hs
  obtain ⟨d0, d1⟩ := hd
  obtain ⟨a0, a1⟩ := ha
  obtain ⟨b0, b1⟩ := hb
  have p1 := Pix.mul_bd a0 a1 (show 0 ≤ 255 - b by omega) (show 255 - b ≤ 255 by omega)
  have p2 := Pix.mul_bd b0 b1 (show 0 ≤ 255 - a by omega) (show 255 - a ≤ 255 by omega)
  have p3 := Pix.mul_bd a0 a1 b0 b1
  have q1 := Pix.mul_bd p1.1 p1.2 s0 s1
  have q2 := Pix.mul_bd p2.1 p2.2 d0 d1
  have q3 := Pix.mul_bd p3.1 p3.2 hbl.1 hbl.2
  have HF : Hid (Pix.color 3 a b s d = Pix.rnd (255 * (a * (255 - b) * s + b * (255 - a) * d) + a * b * Pix.blend 3 s d) (255 * Pix.covers a b)) := rfl
  generalize Pix.covers a b = c at *
  generalize Pix.blend 3 s d = t at *
  go_enter Tryd.func100, Tryd.ntmps100
  go_wp2
  go_quiet ((first | (go_at_call 118; exact (HB.out _).mono fun _ _ ⟨he, hm⟩ => ⟨he, _, hm.symm⟩) | (go_at_call 101; exact (round_any _ _ _ (by omega) (by omega) (by omega) (by omega)).mono fun _ _ ⟨he, hm⟩ => ⟨he, _, hm.symm⟩)))
  go_wp2
  go_ret
  exact ⟨by rw [HF.out]; rfl, _, rfl⟩
set_option maxHeartbeats 1000000 in
theorem color4_any (s d a b : Int) (pa pb pf pc : Addr) (w : World) (hs : Pix.Byte s) (hd : Pix.Byte d) (ha : Pix.Byte a) (hb : Pix.Byte b) (hc : 1 ≤ Pix.covers a b)
    (hcells : ColorCells w pa pb pf pc a b (Pix.covers a b) 119) :
    Calls Tryd.prog 100 #[.int .u8 s, .int .u8 d, .pointer (some pa), .pointer (some pb), .pointer (some pf), .pointer (some pc)] w fun e w' => e = .returned (.int .u8 (Pix.color 4 a b s d)) ∧ ∃ n, w' = w.drewN n := by
  obtain ⟨h1, h2, h3, h4⟩ := hcells
  have hbl := Pix.blend_bd (m := 4) hs hd
  have hcv := Pix.covers_bd ha hb
  have hn := Pix.num_bd (m := 4) ha hb hs hd
  unfold Pix.num at hn
  have HB := Lib.hid (fun W => blend4_any s d W hs hd)
  obtain ⟨s0, s1⟩ := hs
  obtain ⟨d0, d1⟩ := hd
  obtain ⟨a0, a1⟩ := ha
  obtain ⟨b0, b1⟩ := hb
  have p1 := Pix.mul_bd a0 a1 (show 0 ≤ 255 - b by omega) (show 255 - b ≤ 255 by omega)
  have p2 := Pix.mul_bd b0 b1 (show 0 ≤ 255 - a by omega) (show 255 - a ≤ 255 by omega)
  have p3 := Pix.mul_bd a0 a1 b0 b1
  have q1 := Pix.mul_bd p1.1 p1.2 s0 s1
  have q2 := Pix.mul_bd p2.1 p2.2 d0 d1
  have q3 := Pix.mul_bd p3.1 p3.2 hbl.1 hbl.2
  have HF : Hid (Pix.color 4 a b s d = Pix.rnd (255 * (a * (255 - b) * s + b * (255 - a) * d) + a * b * Pix.blend 4 s d) (255 * Pix.covers a b)) := rfl
  generalize Pix.covers a b = c at *
  generalize Pix.blend 4 s d = t at *
  go_enter Tryd.func100, Tryd.ntmps100
  go_wp2
  go_quiet ((first | (go_at_call 119; exact (HB.out _).mono fun _ _ ⟨he, hm⟩ => ⟨he, _, hm.symm⟩) | (go_at_call 101; exact (round_any _ _ _ (by omega) (by omega) (by omega) (by omega)).mono fun _ _ ⟨he, hm⟩ => ⟨he, _, hm.symm⟩)))
  go_wp2
  go_ret
  exact ⟨by rw [HF.out]; rfl, _, rfl⟩
set_option maxHeartbeats 1000000 in
theorem color5_any (s d a b : Int) (pa pb pf pc : Addr) (w : World) (hs : Pix.Byte s) (hd : Pix.Byte d) (ha : Pix.Byte a) (hb : Pix.Byte b) (hc : 1 ≤ Pix.covers a b)
    (hcells : ColorCells w pa pb pf pc a b (Pix.covers a b) 120) :
    Calls Tryd.prog 100 #[.int .u8 s, .int .u8 d, .pointer (some pa), .pointer (some pb), .pointer (some pf), .pointer (some pc)] w fun e w' => e = .returned (.int .u8 (Pix.color 5 a b s d)) ∧ ∃ n, w' = w.drewN n := by
  obtain ⟨h1, h2, h3, h4⟩ := hcells
  have hbl := Pix.blend_bd (m := 5) hs hd
  have hcv := Pix.covers_bd ha hb
  have hn := Pix.num_bd (m := 5) ha hb hs hd
  unfold Pix.num at hn
  have HB := Lib.hid (fun W => blend5_any s d W hs hd)
  obtain ⟨s0, s1⟩ := hs
  obtain ⟨d0, d1⟩ := hd
  obtain ⟨a0, a1⟩ := ha
  obtain ⟨b0, b1⟩ := hb
  have p1 := Pix.mul_bd a0 a1 (show 0 ≤ 255 - b by omega) (show 255 - b ≤ 255 by omega)
  have p2 := Pix.mul_bd b0 b1 (show 0 ≤ 255 - a by omega) (show 255 - a ≤ 255 by omega)
  have p3 := Pix.mul_bd a0 a1 b0 b1
  have q1 := Pix.mul_bd p1.1 p1.2 s0 s1
  have q2 := Pix.mul_bd p2.1 p2.2 d0 d1
  have q3 := Pix.mul_bd p3.1 p3.2 hbl.1 hbl.2
  have HF : Hid (Pix.color 5 a b s d = Pix.rnd (255 * (a * (255 - b) * s + b * (255 - a) * d) + a * b * Pix.blend 5 s d) (255 * Pix.covers a b)) := rfl
  generalize Pix.covers a b = c at *
  generalize Pix.blend 5 s d = t at *
  go_enter Tryd.func100, Tryd.ntmps100
  go_wp2
  go_quiet ((first | (go_at_call 120; exact (HB.out _).mono fun _ _ ⟨he, hm⟩ => ⟨he, _, hm.symm⟩) | (go_at_call 101; exact (round_any _ _ _ (by omega) (by omega) (by omega) (by omega)).mono fun _ _ ⟨he, hm⟩ => ⟨he, _, hm.symm⟩)))
  go_wp2
  go_ret
  exact ⟨by rw [HF.out]; rfl, _, rfl⟩
end Go.Proofs.YtkfjcgcgfdibaaaDoor
namespace Go.Proofs.YtkfjcgcgfdibaaaDoor
open Go.RowKit
/-- what Over's own variables hold, once the two covers are laid aside -/
structure OverW (w wx : World) (r g b r' g' b' : Int) : Prop where
  below : Below w.heap.size w wx
  size : w.heap.size + 3 ≤ wx.heap.size
  c0 : wx.cell? ⟨w.heap.size, 0, none⟩ = some (.int .u8 r)
  c1 : wx.cell? ⟨w.heap.size, 1, none⟩ = some (.int .u8 g)
  c2 : wx.cell? ⟨w.heap.size, 2, none⟩ = some (.int .u8 b)
  d0 : wx.cell? ⟨w.heap.size + 1, 0, none⟩ = some (.int .u8 r')
  d1 : wx.cell? ⟨w.heap.size + 1, 1, none⟩ = some (.int .u8 g')
  d2 : wx.cell? ⟨w.heap.size + 1, 2, none⟩ = some (.int .u8 b')
  r0 : wx.cell? ⟨w.heap.size + 2, 0, none⟩ = some (.int .u8 0)
  r1 : wx.cell? ⟨w.heap.size + 2, 1, none⟩ = some (.int .u8 0)
  r2 : wx.cell? ⟨w.heap.size + 2, 2, none⟩ = some (.int .u8 0)
  r3 : wx.cell? ⟨w.heap.size + 2, 3, none⟩ = some (.int .u8 0)
  z0 : wx.frozen? ⟨w.heap.size + 2, 0, none⟩ = false
  z1 : wx.frozen? ⟨w.heap.size + 2, 1, none⟩ = false
  z2 : wx.frozen? ⟨w.heap.size + 2, 2, none⟩ = false
  z3 : wx.frozen? ⟨w.heap.size + 2, 3, none⟩ = false
theorem OverW.on {w wx wy : World} {r g b r' g' b' : Int} (h : OverW w wx r g b r' g' b') (hb : Below wx.heap.size wx wy) : OverW w wy r g b r' g' b' := by
  have hs := h.size
  exact ⟨h.below.trans (hb.mono (by omega)), by have := hb.size; omega,
    (hb.cell (by simp <;> omega)).trans h.c0, (hb.cell (by simp <;> omega)).trans h.c1, (hb.cell (by simp <;> omega)).trans h.c2,
    (hb.cell (by simp <;> omega)).trans h.d0, (hb.cell (by simp <;> omega)).trans h.d1, (hb.cell (by simp <;> omega)).trans h.d2,
    (hb.cell (by simp <;> omega)).trans h.r0, (hb.cell (by simp <;> omega)).trans h.r1, (hb.cell (by simp <;> omega)).trans h.r2, (hb.cell (by simp <;> omega)).trans h.r3,
    (hb.frozen (by simp <;> omega)).trans h.z0, (hb.frozen (by simp <;> omega)).trans h.z1, (hb.frozen (by simp <;> omega)).trans h.z2, (hb.frozen (by simp <;> omega)).trans h.z3⟩
end Go.Proofs.YtkfjcgcgfdibaaaDoor
namespace Go.Proofs.YtkfjcgcgfdibaaaDoor
open Go.RowKit
set_option maxRecDepth 100000 in
set_option maxHeartbeats 1000000 in
theorem over0_any (r g b a r' g' b' a' : Int) (w : World) (hr : Pix.Byte r) (hg : Pix.Byte g) (hb : Pix.Byte b) (ha : Pix.Byte a) (hr' : Pix.Byte r') (hg' : Pix.Byte g') (hb' : Pix.Byte b') (ha' : Pix.Byte a')
    (hc : 1 ≤ Pix.covers a a') :
    Calls Tryd.prog 72 #[.int .i64 0, pixv r g b a, pixv r' g' b' a'] w fun e w' =>
      e = .returned (.tuple #[pixv (Pix.color 0 a a' r r') (Pix.color 0 a a' g g') (Pix.color 0 a a' b b') (Pix.rnd (Pix.covers a a') 255), .nilIface]) ∧ Below w.heap.size w w' := by
  have hcv := Pix.covers_bd ha ha'
  have HC : Hid (Pix.covers a a' = 255 * a + a' * (255 - a)) := rfl
  have e0 : ((Pix.covers a a' : Int) == 0) = false := by rw [beq_eq_false_iff_ne]; omega
  unfold Pix.covers at e0 hc hcv
  have p2 := Pix.mul_bd ha'.1 ha'.2 (show 0 ≤ 255 - a by have := ha.2; omega) (show 255 - a ≤ 255 by have := ha.1; omega)
  have ba := ha
  have ba' := ha'
  unfold Pix.Byte at ba ba'
  obtain ⟨ba0, ba1⟩ := ba
  obtain ⟨bb0, bb1⟩ := ba'
  have hix : ∀ w : World, (Instr.index 129 (.agg #[.func (.func 115) #[] #[], .func (.func 116) #[] #[], .func (.func 117) #[] #[], .func (.func 118) #[] #[], .func (.func 119) #[] #[], .func (.func 120) #[] #[]]) (.int .i64 0)).run Tryd.prog w = .ok (.func (.func 115) #[] #[]) w := fun _ => by kernel_rfl
  go_enter Tryd.func72, Tryd.ntmps72
  go_upto_region 3 with (go_at_call 71; refine (mode_any _ _).mono ?_; rintro e w' ⟨rfl, rfl⟩)
  go_cut [8, 9] (fun s8 s9 wx => ∃ x y : Nat, s8 = .pointer (some ⟨x, 0, none⟩) ∧ s9 = .pointer (some ⟨y, 0, none⟩) ∧ OverW w wx r g b r' g' b' ∧ wx.cell? ⟨x, 0, none⟩ = some (.int .i64 a) ∧ wx.cell? ⟨y, 0, none⟩ = some (.int .i64 a') ∧ x < wx.heap.size ∧ y < wx.heap.size)
  case first =>
    go_region
    all_goals
      go_wp2_with fail
      go_meet
      refine ⟨_, _, rfl, rfl, ⟨?_, ?_, ?_, ?_, ?_, ?_, ?_, ?_, ?_, ?_, ?_, ?_, ?_, ?_, ?_, ?_⟩, ?_, ?_, ?_, ?_⟩
      · repeat (first | exact Below.refl _ _ | apply Below.drew | refine Below.alloc ?_ (by simp <;> omega) _)
      all_goals first | go_simp | (simp; done) | (simp; omega)
  case rest =>
    obtain ⟨x, y, rfl, rfl, hW, hx, hy, hxy⟩ := hcut
    obtain ⟨hlx, hly⟩ := hxy
    go_wp2_with (go_at_call 99; refine (blends_any _).mono ?_; rintro e w1 ⟨rfl, hb1⟩)
    have hB2 : Below wc.heap.size wc (w1.alloc (.cells #[.func (.func 115) #[] #[]] 100)) := by
      have q1 : Below wc.heap.size wc w1 := ((Below.refl _ _).alloc (Nat.le_refl _) _).trans (hb1.mono (by simp))
      exact q1.alloc q1.size _
    have hf2 : (w1.alloc (.cells #[.func (.func 115) #[] #[]] 100)).cell? ⟨w1.heap.size, 0, none⟩ = some (.func (.func 115) #[] #[]) := by go_simp
    have hcc : (w1.alloc (.cells #[.func (.func 115) #[] #[]] 100)).cell? ⟨wc.heap.size, 0, none⟩ = some (.int .i64 (255 * a + a' * (255 - a))) := by
      have hlt : wc.heap.size < w1.heap.size := by have := hb1.size; simp at this; omega
      rw [World.cell?_alloc_past _ _ _ hlt]
      exact (hb1.cell (by simp)).trans (by go_simp)
    generalize w1.alloc (.cells #[.func (.func 115) #[] #[]] 100) = w2 at *
    generalize w1.heap.size = pf at *
    have hx2 : w2.cell? ⟨x, 0, none⟩ = some (.int .i64 a) := (hB2.cell hlx).trans hx
    have hy2 : w2.cell? ⟨y, 0, none⟩ = some (.int .i64 a') := (hB2.cell hly).trans hy
    obtain ⟨o1, o2, o3, o4, o5, o6, o7, o8, o9, o10, o11, o12, o13, o14, o15, o16⟩ := hW.on hB2
    have hpc := hW.size
    generalize wc.heap.size = pc at *
    have hcol := fun (s d : Int) (W : World) (hs : Pix.Byte s) (hd : Pix.Byte d) (hq : ColorCells W ⟨x, 0, none⟩ ⟨y, 0, none⟩ ⟨pf, 0, none⟩ ⟨pc, 0, none⟩ a a' (Pix.covers a a') 115) => color0_any s d a a' _ _ _ _ W hs hd ha ha' (by rw [HC.out]; exact hc) hq
    have HCOL := Lib.hid hcol
    clear hcol hix hx hy hW hB2 hb1
    go_wp2_with fail
    go_region_held3 (fun w' => w'.cell? ⟨w.heap.size, 0, none⟩ = some (.int .u8 r) ∧ w'.cell? ⟨w.heap.size, 1, none⟩ = some (.int .u8 g) ∧ w'.cell? ⟨w.heap.size, 2, none⟩ = some (.int .u8 b) ∧ w'.cell? ⟨w.heap.size + 1, 0, none⟩ = some (.int .u8 r') ∧ w'.cell? ⟨w.heap.size + 1, 1, none⟩ = some (.int .u8 g') ∧ w'.cell? ⟨w.heap.size + 1, 2, none⟩ = some (.int .u8 b') ∧ w'.cell? ⟨pc, 0, none⟩ = some (.int .i64 (255 * a + a' * (255 - a)))) (first | (simp [*]; done) | (refine ⟨?_, ?_, ?_, ?_, ?_, ?_, ?_⟩ <;> ((repeat rw [World.cell?_setCell_far _ _ _ _ (by simp <;> omega)]) <;> simp [*])))
      (first
        | (go_at_call 100; refine (HCOL.out _ _ _ (by assumption) (by assumption) ?_).mono ?_; (exact ⟨by simp [*], by simp [*], by simp [*], by rw [HC.out]; simp [*]⟩); rintro e w' ⟨rfl, nn, rfl⟩)
        | (go_at_call 101; refine (round_any _ _ _ (by omega) (by omega) (by omega) (by omega)).mono ?_; rintro e w' ⟨rfl, rfl⟩))
    clear HCOL
    go_wp2
    rw [HC.out]
    refine bodyPost_ret (v := .tuple #[pixv (Pix.color 0 a a' r r') (Pix.color 0 a a' g g') (Pix.color 0 a a' b b') (Pix.rnd (255 * a + a' * (255 - a)) 255), .nilIface]) (by simp [results, Tryd.results72, go_sem, *]) rfl ⟨rfl, ?_⟩
    repeat (first | exact o1 | refine Below.setCell ?_ (by simp <;> omega) _ | apply below_drewN)
end Go.Proofs.YtkfjcgcgfdibaaaDoor
namespace Go.Proofs.YtkfjcgcgfdibaaaDoor
open Go.RowKit
set_option maxRecDepth 100000 in
set_option maxHeartbeats 1000000 in
theorem over1_any (r g b a r' g' b' a' : Int) (w : World) (hr : Pix.Byte r) (hg : Pix.Byte g) (hb : Pix.Byte b) (ha : Pix.Byte a) (hr' : Pix.Byte r') (hg' : Pix.Byte g') (hb' : Pix.Byte b') (ha' : Pix.Byte a')
    (hc : 1 ≤ Pix.covers a a') :
    Calls Tryd.prog 72 #[.int .i64 1, pixv r g b a, pixv r' g' b' a'] w fun e w' =>
      e = .returned (.tuple #[pixv (Pix.color 1 a a' r r') (Pix.color 1 a a' g g') (Pix.color 1 a a' b b') (Pix.rnd (Pix.covers a a') 255), .nilIface]) ∧ Below w.heap.size w w' := by
  have hcv := Pix.covers_bd ha ha'
  have HC : Hid (Pix.covers a a' = 255 * a + a' * (255 - a)) := rfl
  have e0 : ((Pix.covers a a' : Int) == 0) = false := by rw [beq_eq_false_iff_ne]; omega
  unfold Pix.covers at e0 hc hcv
  have p2 := Pix.mul_bd ha'.1 ha'.2 (show 0 ≤ 255 - a by have := ha.2; omega) (show 255 - a ≤ 255 by have := ha.1; omega)
  have ba := ha
  have ba' := ha'
  unfold Pix.Byte at ba ba'
  obtain ⟨ba0, ba1⟩ := ba
  obtain ⟨bb0, bb1⟩ := ba'
  have hix : ∀ w : World, (Instr.index 129 (.agg #[.func (.func 115) #[] #[], .func (.func 116) #[] #[], .func (.func 117) #[] #[], .func (.func 118) #[] #[], .func (.func 119) #[] #[], .func (.func 120) #[] #[]]) (.int .i64 1)).run Tryd.prog w = .ok (.func (.func 116) #[] #[]) w := fun _ => by kernel_rfl
  go_enter Tryd.func72, Tryd.ntmps72
  go_upto_region 3 with (go_at_call 71; refine (mode_any _ _).mono ?_; rintro e w' ⟨rfl, rfl⟩)
  go_cut [8, 9] (fun s8 s9 wx => ∃ x y : Nat, s8 = .pointer (some ⟨x, 0, none⟩) ∧ s9 = .pointer (some ⟨y, 0, none⟩) ∧ OverW w wx r g b r' g' b' ∧ wx.cell? ⟨x, 0, none⟩ = some (.int .i64 a) ∧ wx.cell? ⟨y, 0, none⟩ = some (.int .i64 a') ∧ x < wx.heap.size ∧ y < wx.heap.size)
  case first =>
    go_region
    all_goals
      go_wp2_with fail
      go_meet
      refine ⟨_, _, rfl, rfl, ⟨?_, ?_, ?_, ?_, ?_, ?_, ?_, ?_, ?_, ?_, ?_, ?_, ?_, ?_, ?_, ?_⟩, ?_, ?_, ?_, ?_⟩
      · repeat (first | exact Below.refl _ _ | apply Below.drew | refine Below.alloc ?_ (by simp <;> omega) _)
      all_goals first | go_simp | (simp; done) | (simp; omega)
  case rest =>
    obtain ⟨x, y, rfl, rfl, hW, hx, hy, hxy⟩ := hcut
    obtain ⟨hlx, hly⟩ := hxy
    go_wp2_with (go_at_call 99; refine (blends_any _).mono ?_; rintro e w1 ⟨rfl, hb1⟩)
    have hB2 : Below wc.heap.size wc (w1.alloc (.cells #[.func (.func 116) #[] #[]] 100)) := by
      have q1 : Below wc.heap.size wc w1 := ((Below.refl _ _).alloc (Nat.le_refl _) _).trans (hb1.mono (by simp))
      exact q1.alloc q1.size _
    have hf2 : (w1.alloc (.cells #[.func (.func 116) #[] #[]] 100)).cell? ⟨w1.heap.size, 0, none⟩ = some (.func (.func 116) #[] #[]) := by go_simp
    have hcc : (w1.alloc (.cells #[.func (.func 116) #[] #[]] 100)).cell? ⟨wc.heap.size, 0, none⟩ = some (.int .i64 (255 * a + a' * (255 - a))) := by
      have hlt : wc.heap.size < w1.heap.size := by have := hb1.size; simp at this; omega
      rw [World.cell?_alloc_past _ _ _ hlt]
      exact (hb1.cell (by simp)).trans (by go_simp)
    generalize w1.alloc (.cells #[.func (.func 116) #[] #[]] 100) = w2 at *
    generalize w1.heap.size = pf at *
    have hx2 : w2.cell? ⟨x, 0, none⟩ = some (.int .i64 a) := (hB2.cell hlx).trans hx
    have hy2 : w2.cell? ⟨y, 0, none⟩ = some (.int .i64 a') := (hB2.cell hly).trans hy
    obtain ⟨o1, o2, o3, o4, o5, o6, o7, o8, o9, o10, o11, o12, o13, o14, o15, o16⟩ := hW.on hB2
    have hpc := hW.size
    generalize wc.heap.size = pc at *
    have hcol := fun (s d : Int) (W : World) (hs : Pix.Byte s) (hd : Pix.Byte d) (hq : ColorCells W ⟨x, 0, none⟩ ⟨y, 0, none⟩ ⟨pf, 0, none⟩ ⟨pc, 0, none⟩ a a' (Pix.covers a a') 116) => color1_any s d a a' _ _ _ _ W hs hd ha ha' (by rw [HC.out]; exact hc) hq
    have HCOL := Lib.hid hcol
    clear hcol hix hx hy hW hB2 hb1
    go_wp2_with fail
    go_region_held3 (fun w' => w'.cell? ⟨w.heap.size, 0, none⟩ = some (.int .u8 r) ∧ w'.cell? ⟨w.heap.size, 1, none⟩ = some (.int .u8 g) ∧ w'.cell? ⟨w.heap.size, 2, none⟩ = some (.int .u8 b) ∧ w'.cell? ⟨w.heap.size + 1, 0, none⟩ = some (.int .u8 r') ∧ w'.cell? ⟨w.heap.size + 1, 1, none⟩ = some (.int .u8 g') ∧ w'.cell? ⟨w.heap.size + 1, 2, none⟩ = some (.int .u8 b') ∧ w'.cell? ⟨pc, 0, none⟩ = some (.int .i64 (255 * a + a' * (255 - a)))) (first | (simp [*]; done) | (refine ⟨?_, ?_, ?_, ?_, ?_, ?_, ?_⟩ <;> ((repeat rw [World.cell?_setCell_far _ _ _ _ (by simp <;> omega)]) <;> simp [*])))
      (first
        | (go_at_call 100; refine (HCOL.out _ _ _ (by assumption) (by assumption) ?_).mono ?_; (exact ⟨by simp [*], by simp [*], by simp [*], by rw [HC.out]; simp [*]⟩); rintro e w' ⟨rfl, nn, rfl⟩)
        | (go_at_call 101; refine (round_any _ _ _ (by omega) (by omega) (by omega) (by omega)).mono ?_; rintro e w' ⟨rfl, rfl⟩))
    clear HCOL
    go_wp2
    rw [HC.out]
    refine bodyPost_ret (v := .tuple #[pixv (Pix.color 1 a a' r r') (Pix.color 1 a a' g g') (Pix.color 1 a a' b b') (Pix.rnd (255 * a + a' * (255 - a)) 255), .nilIface]) (by simp [results, Tryd.results72, go_sem, *]) rfl ⟨rfl, ?_⟩
    repeat (first | exact o1 | refine Below.setCell ?_ (by simp <;> omega) _ | apply below_drewN)
end Go.Proofs.YtkfjcgcgfdibaaaDoor
namespace Go.Proofs.YtkfjcgcgfdibaaaDoor
open Go.RowKit
set_option maxRecDepth 100000 in
set_option maxHeartbeats 1000000 in
theorem over2_any (r g b a r' g' b' a' : Int) (w : World) (hr : Pix.Byte r) (hg : Pix.Byte g) (hb : Pix.Byte b) (ha : Pix.Byte a) (hr' : Pix.Byte r') (hg' : Pix.Byte g') (hb' : Pix.Byte b') (ha' : Pix.Byte a')
    (hc : 1 ≤ Pix.covers a a') :
    Calls Tryd.prog 72 #[.int .i64 2, pixv r g b a, pixv r' g' b' a'] w fun e w' =>
      e = .returned (.tuple #[pixv (Pix.color 2 a a' r r') (Pix.color 2 a a' g g') (Pix.color 2 a a' b b') (Pix.rnd (Pix.covers a a') 255), .nilIface]) ∧ Below w.heap.size w w' := by
  have hcv := Pix.covers_bd ha ha'
  have HC : Hid (Pix.covers a a' = 255 * a + a' * (255 - a)) := rfl
  have e0 : ((Pix.covers a a' : Int) == 0) = false := by rw [beq_eq_false_iff_ne]; omega
  unfold Pix.covers at e0 hc hcv
  have p2 := Pix.mul_bd ha'.1 ha'.2 (show 0 ≤ 255 - a by have := ha.2; omega) (show 255 - a ≤ 255 by have := ha.1; omega)
  have ba := ha
  have ba' := ha'
  unfold Pix.Byte at ba ba'
  obtain ⟨ba0, ba1⟩ := ba
  obtain ⟨bb0, bb1⟩ := ba'
  have hix : ∀ w : World, (Instr.index 129 (.agg #[.func (.func 115) #[] #[], .func (.func 116) #[] #[], .func (.func 117) #[] #[], .func (.func 118) #[] #[], .func (.func 119) #[] #[], .func (.func 120) #[] #[]]) (.int .i64 2)).run Tryd.prog w = .ok (.func (.func 117) #[] #[]) w := fun _ => by kernel_rfl
  go_enter Tryd.func72, Tryd.ntmps72
  go_upto_region 3 with (go_at_call 71; refine (mode_any _ _).mono ?_; rintro e w' ⟨rfl, rfl⟩)
  go_cut [8, 9] (fun s8 s9 wx => ∃ x y : Nat, s8 = .pointer (some ⟨x, 0, none⟩) ∧ s9 = .pointer (some ⟨y, 0, none⟩) ∧ OverW w wx r g b r' g' b' ∧ wx.cell? ⟨x, 0, none⟩ = some (.int .i64 a) ∧ wx.cell? ⟨y, 0, none⟩ = some (.int .i64 a') ∧ x < wx.heap.size ∧ y < wx.heap.size)
  case first =>
    go_region
    all_goals
      go_wp2_with fail
      go_meet
      refine ⟨_, _, rfl, rfl, ⟨?_, ?_, ?_, ?_, ?_, ?_, ?_, ?_, ?_, ?_, ?_, ?_, ?_, ?_, ?_, ?_⟩, ?_, ?_, ?_, ?_⟩
      · repeat (first | exact Below.refl _ _ | apply Below.drew | refine Below.alloc ?_ (by simp <;> omega) _)
      all_goals first | go_simp | (simp; done) | (simp; omega)
  case rest =>
    obtain ⟨x, y, rfl, rfl, hW, hx, hy, hxy⟩ := hcut
    obtain ⟨hlx, hly⟩ := hxy
    go_wp2_with (go_at_call 99; refine (blends_any _).mono ?_; rintro e w1 ⟨rfl, hb1⟩)
    have hB2 : Below wc.heap.size wc (w1.alloc (.cells #[.func (.func 117) #[] #[]] 100)) := by
      have q1 : Below wc.heap.size wc w1 := ((Below.refl _ _).alloc (Nat.le_refl _) _).trans (hb1.mono (by simp))
      exact q1.alloc q1.size _
    have hf2 : (w1.alloc (.cells #[.func (.func 117) #[] #[]] 100)).cell? ⟨w1.heap.size, 0, none⟩ = some (.func (.func 117) #[] #[]) := by go_simp
    have hcc : (w1.alloc (.cells #[.func (.func 117) #[] #[]] 100)).cell? ⟨wc.heap.size, 0, none⟩ = some (.int .i64 (255 * a + a' * (255 - a))) := by
      have hlt : wc.heap.size < w1.heap.size := by have := hb1.size; simp at this; omega
      rw [World.cell?_alloc_past _ _ _ hlt]
      exact (hb1.cell (by simp)).trans (by go_simp)
    generalize w1.alloc (.cells #[.func (.func 117) #[] #[]] 100) = w2 at *
    generalize w1.heap.size = pf at *
    have hx2 : w2.cell? ⟨x, 0, none⟩ = some (.int .i64 a) := (hB2.cell hlx).trans hx
    have hy2 : w2.cell? ⟨y, 0, none⟩ = some (.int .i64 a') := (hB2.cell hly).trans hy
    obtain ⟨o1, o2, o3, o4, o5, o6, o7, o8, o9, o10, o11, o12, o13, o14, o15, o16⟩ := hW.on hB2
    have hpc := hW.size
    generalize wc.heap.size = pc at *
    have hcol := fun (s d : Int) (W : World) (hs : Pix.Byte s) (hd : Pix.Byte d) (hq : ColorCells W ⟨x, 0, none⟩ ⟨y, 0, none⟩ ⟨pf, 0, none⟩ ⟨pc, 0, none⟩ a a' (Pix.covers a a') 117) => color2_any s d a a' _ _ _ _ W hs hd ha ha' (by rw [HC.out]; exact hc) hq
    have HCOL := Lib.hid hcol
    clear hcol hix hx hy hW hB2 hb1
    go_wp2_with fail
    go_region_held3 (fun w' => w'.cell? ⟨w.heap.size, 0, none⟩ = some (.int .u8 r) ∧ w'.cell? ⟨w.heap.size, 1, none⟩ = some (.int .u8 g) ∧ w'.cell? ⟨w.heap.size, 2, none⟩ = some (.int .u8 b) ∧ w'.cell? ⟨w.heap.size + 1, 0, none⟩ = some (.int .u8 r') ∧ w'.cell? ⟨w.heap.size + 1, 1, none⟩ = some (.int .u8 g') ∧ w'.cell? ⟨w.heap.size + 1, 2, none⟩ = some (.int .u8 b') ∧ w'.cell? ⟨pc, 0, none⟩ = some (.int .i64 (255 * a + a' * (255 - a)))) (first | (simp [*]; done) | (refine ⟨?_, ?_, ?_, ?_, ?_, ?_, ?_⟩ <;> ((repeat rw [World.cell?_setCell_far _ _ _ _ (by simp <;> omega)]) <;> simp [*])))
      (first
        | (go_at_call 100; refine (HCOL.out _ _ _ (by assumption) (by assumption) ?_).mono ?_; (exact ⟨by simp [*], by simp [*], by simp [*], by rw [HC.out]; simp [*]⟩); rintro e w' ⟨rfl, nn, rfl⟩)
        | (go_at_call 101; refine (round_any _ _ _ (by omega) (by omega) (by omega) (by omega)).mono ?_; rintro e w' ⟨rfl, rfl⟩))
    clear HCOL
    go_wp2
    rw [HC.out]
    refine bodyPost_ret (v := .tuple #[pixv (Pix.color 2 a a' r r') (Pix.color 2 a a' g g') (Pix.color 2 a a' b b') (Pix.rnd (255 * a + a' * (255 - a)) 255), .nilIface]) (by simp [results, Tryd.results72, go_sem, *]) rfl ⟨rfl, ?_⟩
    repeat (first | exact o1 | refine Below.setCell ?_ (by simp <;> omega) _ | apply below_drewN)
end Go.Proofs.YtkfjcgcgfdibaaaDoor
namespace Go.Proofs.YtkfjcgcgfdibaaaDoor
open Go.RowKit
set_option maxRecDepth 100000 in
set_option maxHeartbeats 1000000 in
theorem over3_any (r g b a r' g' b' a' : Int) (w : World) (hr : Pix.Byte r) (hg : Pix.Byte g) (hb : Pix.Byte b) (ha : Pix.Byte a) (hr' : Pix.Byte r') (hg' : Pix.Byte g') (hb' : Pix.Byte b') (ha' : Pix.Byte a')
    (hc : 1 ≤ Pix.covers a a') :
    Calls Tryd.prog 72 #[.int .i64 3, pixv r g b a, pixv r' g' b' a'] w fun e w' =>
      e = .returned (.tuple #[pixv (Pix.color 3 a a' r r') (Pix.color 3 a a' g g') (Pix.color 3 a a' b b') (Pix.rnd (Pix.covers a a') 255), .nilIface]) ∧ Below w.heap.size w w' := by
  have hcv := Pix.covers_bd ha ha'
  have HC : Hid (Pix.covers a a' = 255 * a + a' * (255 - a)) := rfl
  have e0 : ((Pix.covers a a' : Int) == 0) = false := by rw [beq_eq_false_iff_ne]; omega
  unfold Pix.covers at e0 hc hcv
  have p2 := Pix.mul_bd ha'.1 ha'.2 (show 0 ≤ 255 - a by have := ha.2; omega) (show 255 - a ≤ 255 by have := ha.1; omega)
  have ba := ha
  have ba' := ha'
  unfold Pix.Byte at ba ba'
  obtain ⟨ba0, ba1⟩ := ba
  obtain ⟨bb0, bb1⟩ := ba'
  have hix : ∀ w : World, (Instr.index 129 (.agg #[.func (.func 115) #[] #[], .func (.func 116) #[] #[], .func (.func 117) #[] #[], .func (.func 118) #[] #[], .func (.func 119) #[] #[], .func (.func 120) #[] #[]]) (.int .i64 3)).run Tryd.prog w = .ok (.func (.func 118) #[] #[]) w := fun _ => by kernel_rfl
  go_enter Tryd.func72, Tryd.ntmps72
  go_upto_region 3 with (go_at_call 71; refine (mode_any _ _).mono ?_; rintro e w' ⟨rfl, rfl⟩)
  go_cut [8, 9] (fun s8 s9 wx => ∃ x y : Nat, s8 = .pointer (some ⟨x, 0, none⟩) ∧ s9 = .pointer (some ⟨y, 0, none⟩) ∧ OverW w wx r g b r' g' b' ∧ wx.cell? ⟨x, 0, none⟩ = some (.int .i64 a) ∧ wx.cell? ⟨y, 0, none⟩ = some (.int .i64 a') ∧ x < wx.heap.size ∧ y < wx.heap.size)
  case first =>
    go_region
    all_goals
      go_wp2_with fail
      go_meet
      refine ⟨_, _, rfl, rfl, ⟨?_, ?_, ?_, ?_, ?_, ?_, ?_, ?_, ?_, ?_, ?_, ?_, ?_, ?_, ?_, ?_⟩, ?_, ?_, ?_, ?_⟩
      · repeat (first | exact Below.refl _ _ | apply Below.drew | refine Below.alloc ?_ (by simp <;> omega) _)
      all_goals first | go_simp | (simp; done) | (simp; omega)
  case rest =>
    obtain ⟨x, y, rfl, rfl, hW, hx, hy, hxy⟩ := hcut
    obtain ⟨hlx, hly⟩ := hxy
    go_wp2_with (go_at_call 99; refine (blends_any _).mono ?_; rintro e w1 ⟨rfl, hb1⟩)
    have hB2 : Below wc.heap.size wc (w1.alloc (.cells #[.func (.func 118) #[] #[]] 100)) := by
      have q1 : Below wc.heap.size wc w1 := ((Below.refl _ _).alloc (Nat.le_refl _) _).trans (hb1.mono (by simp))
      exact q1.alloc q1.size _
    have hf2 : (w1.alloc (.cells #[.func (.func 118) #[] #[]] 100)).cell? ⟨w1.heap.size, 0, none⟩ = some (.func (.func 118) #[] #[]) := by go_simp
    have hcc : (w1.alloc (.cells #[.func (.func 118) #[] #[]] 100)).cell? ⟨wc.heap.size, 0, none⟩ = some (.int .i64 (255 * a + a' * (255 - a))) := by
      have hlt : wc.heap.size < w1.heap.size := by have := hb1.size; simp at this; omega
      rw [World.cell?_alloc_past _ _ _ hlt]
      exact (hb1.cell (by simp)).trans (by go_simp)
    generalize w1.alloc (.cells #[.func (.func 118) #[] #[]] 100) = w2 at *
    generalize w1.heap.size = pf at *
    have hx2 : w2.cell? ⟨x, 0, none⟩ = some (.int .i64 a) := (hB2.cell hlx).trans hx
    have hy2 : w2.cell? ⟨y, 0, none⟩ = some (.int .i64 a') := (hB2.cell hly).trans hy
    obtain ⟨o1, o2, o3, o4, o5, o6, o7, o8, o9, o10, o11, o12, o13, o14, o15, o16⟩ := hW.on hB2
    have hpc := hW.size
    generalize wc.heap.size = pc at *
    have hcol := fun (s d : Int) (W : World) (hs : Pix.Byte s) (hd : Pix.Byte d) (hq : ColorCells W ⟨x, 0, none⟩ ⟨y, 0, none⟩ ⟨pf, 0, none⟩ ⟨pc, 0, none⟩ a a' (Pix.covers a a') 118) => color3_any s d a a' _ _ _ _ W hs hd ha ha' (by rw [HC.out]; exact hc) hq
    have HCOL := Lib.hid hcol
    clear hcol hix hx hy hW hB2 hb1
    go_wp2_with fail
    go_region_held3 (fun w' => w'.cell? ⟨w.heap.size, 0, none⟩ = some (.int .u8 r) ∧ w'.cell? ⟨w.heap.size, 1, none⟩ = some (.int .u8 g) ∧ w'.cell? ⟨w.heap.size, 2, none⟩ = some (.int .u8 b) ∧ w'.cell? ⟨w.heap.size + 1, 0, none⟩ = some (.int .u8 r') ∧ w'.cell? ⟨w.heap.size + 1, 1, none⟩ = some (.int .u8 g') ∧ w'.cell? ⟨w.heap.size + 1, 2, none⟩ = some (.int .u8 b') ∧ w'.cell? ⟨pc, 0, none⟩ = some (.int .i64 (255 * a + a' * (255 - a)))) (first | (simp [*]; done) | (refine ⟨?_, ?_, ?_, ?_, ?_, ?_, ?_⟩ <;> ((repeat rw [World.cell?_setCell_far _ _ _ _ (by simp <;> omega)]) <;> simp [*])))
      (first
        | (go_at_call 100; refine (HCOL.out _ _ _ (by assumption) (by assumption) ?_).mono ?_; (exact ⟨by simp [*], by simp [*], by simp [*], by rw [HC.out]; simp [*]⟩); rintro e w' ⟨rfl, nn, rfl⟩)
        | (go_at_call 101; refine (round_any _ _ _ (by omega) (by omega) (by omega) (by omega)).mono ?_; rintro e w' ⟨rfl, rfl⟩))
    clear HCOL
    go_wp2
    rw [HC.out]
    refine bodyPost_ret (v := .tuple #[pixv (Pix.color 3 a a' r r') (Pix.color 3 a a' g g') (Pix.color 3 a a' b b') (Pix.rnd (255 * a + a' * (255 - a)) 255), .nilIface]) (by simp [results, Tryd.results72, go_sem, *]) rfl ⟨rfl, ?_⟩
    repeat (first | exact o1 | refine Below.setCell ?_ (by simp <;> omega) _ | apply below_drewN)
end Go.Proofs.YtkfjcgcgfdibaaaDoor
namespace Go.Proofs.YtkfjcgcgfdibaaaDoor
open Go.RowKit
set_option maxRecDepth 100000 in
set_option maxHeartbeats 1000000 in
theorem over4_any (r g b a r' g' b' a' : Int) (w : World) (hr : Pix.Byte r) (hg : Pix.Byte g) (hb : Pix.Byte b) (ha : Pix.Byte a) (hr' : Pix.Byte r') (hg' : Pix.Byte g') (hb' : Pix.Byte b') (ha' : Pix.Byte a')
    (hc : 1 ≤ Pix.covers a a') :
    Calls Tryd.prog 72 #[.int .i64 4, pixv r g b a, pixv r' g' b' a'] w fun e w' =>
      e = .returned (.tuple #[pixv (Pix.color 4 a a' r r') (Pix.color 4 a a' g g') (Pix.color 4 a a' b b') (Pix.rnd (Pix.covers a a') 255), .nilIface]) ∧ Below w.heap.size w w' := by
  have hcv := Pix.covers_bd ha ha'
  have HC : Hid (Pix.covers a a' = 255 * a + a' * (255 - a)) := rfl
  have e0 : ((Pix.covers a a' : Int) == 0) = false := by rw [beq_eq_false_iff_ne]; omega
  unfold Pix.covers at e0 hc hcv
  have p2 := Pix.mul_bd ha'.1 ha'.2 (show 0 ≤ 255 - a by have := ha.2; omega) (show 255 - a ≤ 255 by have := ha.1; omega)
  have ba := ha
  have ba' := ha'
  unfold Pix.Byte at ba ba'
  obtain ⟨ba0, ba1⟩ := ba
  obtain ⟨bb0, bb1⟩ := ba'
  have hix : ∀ w : World, (Instr.index 129 (.agg #[.func (.func 115) #[] #[], .func (.func 116) #[] #[], .func (.func 117) #[] #[], .func (.func 118) #[] #[], .func (.func 119) #[] #[], .func (.func 120) #[] #[]]) (.int .i64 4)).run Tryd.prog w = .ok (.func (.func 119) #[] #[]) w := fun _ => by kernel_rfl
  go_enter Tryd.func72, Tryd.ntmps72
  go_upto_region 3 with (go_at_call 71; refine (mode_any _ _).mono ?_; rintro e w' ⟨rfl, rfl⟩)
  go_cut [8, 9] (fun s8 s9 wx => ∃ x y : Nat, s8 = .pointer (some ⟨x, 0, none⟩) ∧ s9 = .pointer (some ⟨y, 0, none⟩) ∧ OverW w wx r g b r' g' b' ∧ wx.cell? ⟨x, 0, none⟩ = some (.int .i64 a) ∧ wx.cell? ⟨y, 0, none⟩ = some (.int .i64 a') ∧ x < wx.heap.size ∧ y < wx.heap.size)
  case first =>
    go_region
    all_goals
      go_wp2_with fail
      go_meet
      refine ⟨_, _, rfl, rfl, ⟨?_, ?_, ?_, ?_, ?_, ?_, ?_, ?_, ?_, ?_, ?_, ?_, ?_, ?_, ?_, ?_⟩, ?_, ?_, ?_, ?_⟩
      · repeat (first | exact Below.refl _ _ | apply Below.drew | refine Below.alloc ?_ (by simp <;> omega) _)
      all_goals first | go_simp | (simp; done) | (simp; omega)
  case rest =>
    obtain ⟨x, y, rfl, rfl, hW, hx, hy, hxy⟩ := hcut
    obtain ⟨hlx, hly⟩ := hxy
    go_wp2_with (go_at_call 99; refine (blends_any _).mono ?_; rintro e w1 ⟨rfl, hb1⟩)
    have hB2 : Below wc.heap.size wc (w1.alloc (.cells #[.func (.func 119) #[] #[]] 100)) := by
      have q1 : Below wc.heap.size wc w1 := ((Below.refl _ _).alloc (Nat.le_refl _) _).trans (hb1.mono (by simp))
      exact q1.alloc q1.size _
    have hf2 : (w1.alloc (.cells #[.func (.func 119) #[] #[]] 100)).cell? ⟨w1.heap.size, 0, none⟩ = some (.func (.func 119) #[] #[]) := by go_simp
    have hcc : (w1.alloc (.cells #[.func (.func 119) #[] #[]] 100)).cell? ⟨wc.heap.size, 0, none⟩ = some (.int .i64 (255 * a + a' * (255 - a))) := by
      have hlt : wc.heap.size < w1.heap.size := by have := hb1.size; simp at this; omega
      rw [World.cell?_alloc_past _ _ _ hlt]
      exact (hb1.cell (by simp)).trans (by go_simp)
    generalize w1.alloc (.cells #[.func (.func 119) #[] #[]] 100) = w2 at *
    generalize w1.heap.size = pf at *
    have hx2 : w2.cell? ⟨x, 0, none⟩ = some (.int .i64 a) := (hB2.cell hlx).trans hx
    have hy2 : w2.cell? ⟨y, 0, none⟩ = some (.int .i64 a') := (hB2.cell hly).trans hy
    obtain ⟨o1, o2, o3, o4, o5, o6, o7, o8, o9, o10, o11, o12, o13, o14, o15, o16⟩ := hW.on hB2
    have hpc := hW.size
    generalize wc.heap.size = pc at *
    have hcol := fun (s d : Int) (W : World) (hs : Pix.Byte s) (hd : Pix.Byte d) (hq : ColorCells W ⟨x, 0, none⟩ ⟨y, 0, none⟩ ⟨pf, 0, none⟩ ⟨pc, 0, none⟩ a a' (Pix.covers a a') 119) => color4_any s d a a' _ _ _ _ W hs hd ha ha' (by rw [HC.out]; exact hc) hq
    have HCOL := Lib.hid hcol
    clear hcol hix hx hy hW hB2 hb1
    go_wp2_with fail
    go_region_held3 (fun w' => w'.cell? ⟨w.heap.size, 0, none⟩ = some (.int .u8 r) ∧ w'.cell? ⟨w.heap.size, 1, none⟩ = some (.int .u8 g) ∧ w'.cell? ⟨w.heap.size, 2, none⟩ = some (.int .u8 b) ∧ w'.cell? ⟨w.heap.size + 1, 0, none⟩ = some (.int .u8 r') ∧ w'.cell? ⟨w.heap.size + 1, 1, none⟩ = some (.int .u8 g') ∧ w'.cell? ⟨w.heap.size + 1, 2, none⟩ = some (.int .u8 b') ∧ w'.cell? ⟨pc, 0, none⟩ = some (.int .i64 (255 * a + a' * (255 - a)))) (first | (simp [*]; done) | (refine ⟨?_, ?_, ?_, ?_, ?_, ?_, ?_⟩ <;> ((repeat rw [World.cell?_setCell_far _ _ _ _ (by simp <;> omega)]) <;> simp [*])))
      (first
        | (go_at_call 100; refine (HCOL.out _ _ _ (by assumption) (by assumption) ?_).mono ?_; (exact ⟨by simp [*], by simp [*], by simp [*], by rw [HC.out]; simp [*]⟩); rintro e w' ⟨rfl, nn, rfl⟩)
        | (go_at_call 101; refine (round_any _ _ _ (by omega) (by omega) (by omega) (by omega)).mono ?_; rintro e w' ⟨rfl, rfl⟩))
    clear HCOL
    go_wp2
    rw [HC.out]
    refine bodyPost_ret (v := .tuple #[pixv (Pix.color 4 a a' r r') (Pix.color 4 a a' g g') (Pix.color 4 a a' b b') (Pix.rnd (255 * a + a' * (255 - a)) 255), .nilIface]) (by simp [results, Tryd.results72, go_sem, *]) rfl ⟨rfl, ?_⟩
    repeat (first | exact o1 | refine Below.setCell ?_ (by simp <;> omega) _ | apply below_drewN)
end Go.Proofs.YtkfjcgcgfdibaaaDoor
namespace Go.Proofs.YtkfjcgcgfdibaaaDoor
open Go.RowKit
set_option maxRecDepth 100000 in
set_option maxHeartbeats 1000000 in
theorem over5_any (r g b a r' g' b' a' : Int) (w : World) (hr : Pix.Byte r) (hg : Pix.Byte g) (hb : Pix.Byte b) (ha : Pix.Byte a) (hr' : Pix.Byte r') (hg' : Pix.Byte g') (hb' : Pix.Byte b') (ha' : Pix.Byte a')
    (hc : 1 ≤ Pix.covers a a') :
    Calls Tryd.prog 72 #[.int .i64 5, pixv r g b a, pixv r' g' b' a'] w fun e w' =>
      e = .returned (.tuple #[pixv (Pix.color 5 a a' r r') (Pix.color 5 a a' g g') (Pix.color 5 a a' b b') (Pix.rnd (Pix.covers a a') 255), .nilIface]) ∧ Below w.heap.size w w' := by
  have hcv := Pix.covers_bd ha ha'
  have HC : Hid (Pix.covers a a' = 255 * a + a' * (255 - a)) := rfl
  have e0 : ((Pix.covers a a' : Int) == 0) = false := by rw [beq_eq_false_iff_ne]; omega
  unfold Pix.covers at e0 hc hcv
  have p2 := Pix.mul_bd ha'.1 ha'.2 (show 0 ≤ 255 - a by have := ha.2; omega) (show 255 - a ≤ 255 by have := ha.1; omega)
  have ba := ha
  have ba' := ha'
  unfold Pix.Byte at ba ba'
  obtain ⟨ba0, ba1⟩ := ba
  obtain ⟨bb0, bb1⟩ := ba'
  have hix : ∀ w : World, (Instr.index 129 (.agg #[.func (.func 115) #[] #[], .func (.func 116) #[] #[], .func (.func 117) #[] #[], .func (.func 118) #[] #[], .func (.func 119) #[] #[], .func (.func 120) #[] #[]]) (.int .i64 5)).run Tryd.prog w = .ok (.func (.func 120) #[] #[]) w := fun _ => by kernel_rfl
  go_enter Tryd.func72, Tryd.ntmps72
  go_upto_region 3 with (go_at_call 71; refine (mode_any _ _).mono ?_; rintro e w' ⟨rfl, rfl⟩)
  go_cut [8, 9] (fun s8 s9 wx => ∃ x y : Nat, s8 = .pointer (some ⟨x, 0, none⟩) ∧ s9 = .pointer (some ⟨y, 0, none⟩) ∧ OverW w wx r g b r' g' b' ∧ wx.cell? ⟨x, 0, none⟩ = some (.int .i64 a) ∧ wx.cell? ⟨y, 0, none⟩ = some (.int .i64 a') ∧ x < wx.heap.size ∧ y < wx.heap.size)
  case first =>
    go_region
    all_goals
      go_wp2_with fail
      go_meet
      refine ⟨_, _, rfl, rfl, ⟨?_, ?_, ?_, ?_, ?_, ?_, ?_, ?_, ?_, ?_, ?_, ?_, ?_, ?_, ?_, ?_⟩, ?_, ?_, ?_, ?_⟩
      · repeat (first | exact Below.refl _ _ | apply Below.drew | refine Below.alloc ?_ (by simp <;> omega) _)
      all_goals first | go_simp | (simp; done) | (simp; omega)
  case rest =>
    obtain ⟨x, y, rfl, rfl, hW, hx, hy, hxy⟩ := hcut
    obtain ⟨hlx, hly⟩ := hxy
    go_wp2_with (go_at_call 99; refine (blends_any _).mono ?_; rintro e w1 ⟨rfl, hb1⟩)
    have hB2 : Below wc.heap.size wc (w1.alloc (.cells #[.func (.func 120) #[] #[]] 100)) := by
      have q1 : Below wc.heap.size wc w1 := ((Below.refl _ _).alloc (Nat.le_refl _) _).trans (hb1.mono (by simp))
      exact q1.alloc q1.size _
    have hf2 : (w1.alloc (.cells #[.func (.func 120) #[] #[]] 100)).cell? ⟨w1.heap.size, 0, none⟩ = some (.func (.func 120) #[] #[]) := by go_simp
    have hcc : (w1.alloc (.cells #[.func (.func 120) #[] #[]] 100)).cell? ⟨wc.heap.size, 0, none⟩ = some (.int .i64 (255 * a + a' * (255 - a))) := by
      have hlt : wc.heap.size < w1.heap.size := by have := hb1.size; simp at this; omega
      rw [World.cell?_alloc_past _ _ _ hlt]
      exact (hb1.cell (by simp)).trans (by go_simp)
    generalize w1.alloc (.cells #[.func (.func 120) #[] #[]] 100) = w2 at *
    generalize w1.heap.size = pf at *
    have hx2 : w2.cell? ⟨x, 0, none⟩ = some (.int .i64 a) := (hB2.cell hlx).trans hx
    have hy2 : w2.cell? ⟨y, 0, none⟩ = some (.int .i64 a') := (hB2.cell hly).trans hy
    obtain ⟨o1, o2, o3, o4, o5, o6, o7, o8, o9, o10, o11, o12, o13, o14, o15, o16⟩ := hW.on hB2
    have hpc := hW.size
    generalize wc.heap.size = pc at *
    have hcol := fun (s d : Int) (W : World) (hs : Pix.Byte s) (hd : Pix.Byte d) (hq : ColorCells W ⟨x, 0, none⟩ ⟨y, 0, none⟩ ⟨pf, 0, none⟩ ⟨pc, 0, none⟩ a a' (Pix.covers a a') 120) => color5_any s d a a' _ _ _ _ W hs hd ha ha' (by rw [HC.out]; exact hc) hq
    have HCOL := Lib.hid hcol
    clear hcol hix hx hy hW hB2 hb1
    go_wp2_with fail
    go_region_held3 (fun w' => w'.cell? ⟨w.heap.size, 0, none⟩ = some (.int .u8 r) ∧ w'.cell? ⟨w.heap.size, 1, none⟩ = some (.int .u8 g) ∧ w'.cell? ⟨w.heap.size, 2, none⟩ = some (.int .u8 b) ∧ w'.cell? ⟨w.heap.size + 1, 0, none⟩ = some (.int .u8 r') ∧ w'.cell? ⟨w.heap.size + 1, 1, none⟩ = some (.int .u8 g') ∧ w'.cell? ⟨w.heap.size + 1, 2, none⟩ = some (.int .u8 b') ∧ w'.cell? ⟨pc, 0, none⟩ = some (.int .i64 (255 * a + a' * (255 - a)))) (first | (simp [*]; done) | (refine ⟨?_, ?_, ?_, ?_, ?_, ?_, ?_⟩ <;> ((repeat rw [World.cell?_setCell_far _ _ _ _ (by simp <;> omega)]) <;> simp [*])))
      (first
        | (go_at_call 100; refine (HCOL.out _ _ _ (by assumption) (by assumption) ?_).mono ?_; (exact ⟨by simp [*], by simp [*], by simp [*], by rw [HC.out]; simp [*]⟩); rintro e w' ⟨rfl, nn, rfl⟩)
        | (go_at_call 101; refine (round_any _ _ _ (by omega) (by omega) (by omega) (by omega)).mono ?_; rintro e w' ⟨rfl, rfl⟩))
    clear HCOL
    go_wp2
    rw [HC.out]
    refine bodyPost_ret (v := .tuple #[pixv (Pix.color 5 a a' r r') (Pix.color 5 a a' g g') (Pix.color 5 a a' b b') (Pix.rnd (255 * a + a' * (255 - a)) 255), .nilIface]) (by simp [results, Tryd.results72, go_sem, *]) rfl ⟨rfl, ?_⟩
    repeat (first | exact o1 | refine Below.setCell ?_ (by simp <;> omega) _ | apply below_drewN)
end Go.Proofs.YtkfjcgcgfdibaaaDoor
namespace Go.Proofs.YtkfjcgcgfdibaaaDoor
open Go.RowKit
/-- one pixel over another one -/
def P4.over (m : Int) (p q : P4) : P4 :=
  if Pix.covers p.a q.a = 0 then P4.zero
  else ⟨Pix.color m p.a q.a p.r q.r, Pix.color m p.a q.a p.g q.g, Pix.color m p.a q.a p.b q.b, Pix.rnd (Pix.covers p.a q.a) 255⟩
theorem P4.over_ok (m : Int) (p q : P4) : (P4.over m p q).Ok := by
  unfold P4.over
  split
  · exact P4.zero_ok
  · exact ⟨Pix.rnd_byte _ _, Pix.rnd_byte _ _, Pix.rnd_byte _ _, Pix.rnd_byte _ _⟩
theorem covers_zero {a b : Int} (ha : Pix.Byte a) (hb : Pix.Byte b) (h : Pix.covers a b = 0) : a = 0 ∧ b = 0 := by
  obtain ⟨a0, a1⟩ := ha; obtain ⟨b0, b1⟩ := hb
  have h2 := Pix.mul_bd b0 b1 (show 0 ≤ 255 - a by omega) (show 255 - a ≤ 255 by omega)
  unfold Pix.covers at h
  have ha0 : a = 0 := by omega
  subst ha0
  exact ⟨rfl, by omega⟩
set_option maxRecDepth 100000 in
set_option maxHeartbeats 1000000 in
theorem over_none_any (m r g b r' g' b' : Int) (w : World) (hm : 0 ≤ m ∧ m < 6) :
    Calls Tryd.prog 72 #[.int .i64 m, pixv r g b 0, pixv r' g' b' 0] w fun e w' =>
      e = .returned (.tuple #[pixv 0 0 0 0, .nilIface]) ∧ Below w.heap.size w w' := by
  obtain ⟨hm0, hm1⟩ := hm
  go_enter Tryd.func72, Tryd.ntmps72
  go_upto_region 3 with (go_at_call 71; refine (mode_any _ _).mono ?_; rintro e w' ⟨rfl, rfl⟩)
  go_cut [8, 9] (fun s8 s9 wx => ∃ x y : Nat, s8 = .pointer (some ⟨x, 0, none⟩) ∧ s9 = .pointer (some ⟨y, 0, none⟩) ∧ OverW w wx r g b r' g' b' ∧ wx.cell? ⟨x, 0, none⟩ = some (.int .i64 0) ∧ wx.cell? ⟨y, 0, none⟩ = some (.int .i64 0) ∧ x < wx.heap.size ∧ y < wx.heap.size)
  case first =>
    go_region
    all_goals
      go_wp2_with fail
      go_meet
      refine ⟨_, _, rfl, rfl, ⟨?_, ?_, ?_, ?_, ?_, ?_, ?_, ?_, ?_, ?_, ?_, ?_, ?_, ?_, ?_, ?_⟩, ?_, ?_, ?_, ?_⟩
      · repeat (first | exact Below.refl _ _ | apply Below.drew | refine Below.alloc ?_ (by simp <;> omega) _)
      all_goals first | go_simp | (simp; done) | (simp; omega)
  case rest =>
    obtain ⟨x, y, rfl, rfl, hW, hx, hy, hxy⟩ := hcut
    obtain ⟨hlx, hly⟩ := hxy
    have hW2 := hW.on ((Below.refl _ _).alloc (Nat.le_refl _) (.cells #[.int .i64 0] 3))
    obtain ⟨o1, o2, o3, o4, o5, o6, o7, o8, o9, o10, o11, o12, o13, o14, o15, o16⟩ := hW2
    go_wp2
    refine bodyPost_ret (v := .tuple #[pixv 0 0 0 0, .nilIface]) (by simp [results, Tryd.results72, go_sem, *]) rfl ⟨rfl, ?_⟩
    repeat (first | exact o1 | refine Below.setCell ?_ (by simp <;> omega) _ | apply below_drewN)
theorem over_any (m : Int) (p q : P4) (w : World) (hm : 0 ≤ m ∧ m < 6) (hp : p.Ok) (hq : q.Ok) :
    Calls Tryd.prog 72 #[.int .i64 m, p.val, q.val] w fun e w' => e = .returned (.tuple #[(P4.over m p q).val, .nilIface]) ∧ Below w.heap.size w w' := by
  by_cases hc : Pix.covers p.a q.a = 0
  · obtain ⟨e1, e2⟩ := covers_zero hp.a hq.a hc
    have e3 : P4.over m p q = P4.zero := by unfold P4.over; rw [if_pos hc]
    rw [e3]
    obtain ⟨r, g, b, a⟩ := p
    obtain ⟨r', g', b', a'⟩ := q
    simp only at e1 e2
    subst e1 e2
    exact over_none_any m r g b r' g' b' w hm
  · have hc1 := Pix.covers_pos hp.a hq.a hc
    have e3 : P4.over m p q = ⟨Pix.color m p.a q.a p.r q.r, Pix.color m p.a q.a p.g q.g, Pix.color m p.a q.a p.b q.b, Pix.rnd (Pix.covers p.a q.a) 255⟩ := by unfold P4.over; rw [if_neg hc]
    rw [e3]
    rcases (show m = 0 ∨ m = 1 ∨ m = 2 ∨ m = 3 ∨ m = 4 ∨ m = 5 by omega) with h | h | h | h | h | h
    · subst h; exact over0_any _ _ _ _ _ _ _ _ w hp.r hp.g hp.b hp.a hq.r hq.g hq.b hq.a hc1
    · subst h; exact over1_any _ _ _ _ _ _ _ _ w hp.r hp.g hp.b hp.a hq.r hq.g hq.b hq.a hc1
    · subst h; exact over2_any _ _ _ _ _ _ _ _ w hp.r hp.g hp.b hp.a hq.r hq.g hq.b hq.a hc1
    · subst h; exact over3_any _ _ _ _ _ _ _ _ w hp.r hp.g hp.b hp.a hq.r hq.g hq.b hq.a hc1
    · subst h; exact over4_any _ _ _ _ _ _ _ _ w hp.r hp.g hp.b hp.a hq.r hq.g hq.b hq.a hc1
    · subst h; exact over5_any _ _ _ _ _ _ _ _ w hp.r hp.g hp.b hp.a hq.r hq.g hq.b hq.a hc1
/-- the laws, of pixels whole -/
theorem P4.over_zero (m : Int) (p : P4) (hp : p.Ok) (h : p.a ≠ 0) : P4.over m p P4.zero = p := by
  obtain ⟨r, g, b, a⟩ := p
  obtain ⟨a0, a1⟩ := hp.a
  simp only at a0 a1 h
  have ha : 1 ≤ a := by omega
  unfold P4.over P4.zero
  simp only
  rw [if_neg (by unfold Pix.covers; omega), Pix.over_none m a r ha a1 hp.r, Pix.over_none m a g ha a1 hp.g, Pix.over_none m a b ha a1 hp.b]
  congr 1
  have : Pix.covers a 0 = a * 255 := by unfold Pix.covers; omega
  rw [this]; exact Pix.rnd_exact _ _ (by omega) ⟨a0, a1⟩
theorem P4.zero_over (m : Int) (p : P4) (hp : p.Ok) (h : p.a ≠ 0) : P4.over m P4.zero p = p := by
  obtain ⟨r, g, b, a⟩ := p
  obtain ⟨a0, a1⟩ := hp.a
  simp only at a0 a1 h
  have ha : 1 ≤ a := by omega
  unfold P4.over P4.zero
  simp only
  rw [if_neg (by unfold Pix.covers; omega), Pix.under_none m a r ha a1 hp.r, Pix.under_none m a g ha a1 hp.g, Pix.under_none m a b ha a1 hp.b]
  congr 1
  have : Pix.covers 0 a = a * 255 := by unfold Pix.covers; omega
  rw [this]; exact Pix.rnd_exact _ _ (by omega) ⟨a0, a1⟩
theorem P4.over_nought (m : Int) (p q : P4) (hp : p.a = 0) (hq : q.a = 0) : P4.over m p q = P4.zero := by
  unfold P4.over; rw [if_pos (by rw [hp, hq]; rfl)]
theorem P4.full_over (p q : P4) (hp : p.Ok) (hq : q.Ok) (h : p.a = 255) : P4.over 0 p q = p := by
  obtain ⟨r, g, b, a⟩ := p
  obtain ⟨a0, a1⟩ := hq.a
  simp only at h
  subst h
  unfold P4.over
  simp only
  rw [if_neg (by unfold Pix.covers; omega), Pix.full_hides _ _ _ hq.a hp.r, Pix.full_hides _ _ _ hq.a hp.g, Pix.full_hides _ _ _ hq.a hp.b]
  congr 1
  have : Pix.covers 255 q.a = 255 * 255 := by unfold Pix.covers; omega
  rw [this]; rfl
theorem P4.over_comm (m : Int) (p q : P4) (hm : m ≠ 0) (h : p.a = q.a) : P4.over m p q = P4.over m q p := by
  unfold P4.over
  rw [h, Pix.color_comm m q.a p.r q.r hm, Pix.color_comm m q.a p.g q.g hm, Pix.color_comm m q.a p.b q.b hm]
theorem P4.over_alpha (m n : Int) (p q : P4) (hp : p.Ok) (hq : q.Ok) : (P4.over m p q).a = (P4.over n q p).a ∧ p.a ≤ (P4.over m p q).a ∧ q.a ≤ (P4.over m p q).a := by
  have hcc := Pix.covers_comm p.a q.a
  by_cases hc : Pix.covers p.a q.a = 0
  · obtain ⟨e1, e2⟩ := covers_zero hp.a hq.a hc
    rw [P4.over_nought m p q e1 e2, P4.over_nought n q p e2 e1, e1, e2]
    exact ⟨rfl, by decide, by decide⟩
  · have h1 : (P4.over m p q).a = Pix.rnd (Pix.covers p.a q.a) 255 := by unfold P4.over; rw [if_neg hc]
    have h2 : (P4.over n q p).a = Pix.rnd (Pix.covers q.a p.a) 255 := by unfold P4.over; rw [if_neg (by rw [← hcc]; exact hc)]
    rw [h1, h2]
    refine ⟨by rw [hcc], Pix.alpha_ge _ _ hp.a hq.a, ?_⟩
    rw [hcc]; exact Pix.alpha_ge _ _ hq.a hp.a
end Go.Proofs.YtkfjcgcgfdibaaaDoor
namespace Go.Proofs.YtkfjcgcgfdibaaaDoor
open Go.RowKit
set_option maxRecDepth 100000
/-- the pixel that the stamp gives at i, where it lies on it -/
def stI (QW W : Nat) (x y : Int) (i : Nat) : Nat := ((((i / W : Nat) : Int) - y).toNat) * QW + ((((i % W : Nat) : Int) - x).toNat)
def stB (QW QH W : Nat) (x y : Int) (i : Nat) : Bool := inB (QW : Int) (QH : Int) (((i % W : Nat) : Int) - x) (((i / W : Nat) : Int) - y)
/-- behind k of the picture's pixels -/
def stP (W QW QH : Nat) (x y m : Int) (px qx : Nat → P4) (k i : Nat) : P4 := if i < k ∧ stB QW QH W x y i = true then P4.over m (qx (stI QW W x y i)) (px i) else px i
/-- behind k of the stamp's pixels -/
def stQ (W QW QH : Nat) (x y m : Int) (px qx : Nat → P4) (k i : Nat) : P4 := if stB QW QH W x y i = true ∧ stI QW W x y i < k then P4.over m (qx (stI QW W x y i)) (px i) else px i
theorem stP_no {W QW QH u v : Nat} {x y m : Int} {px qx : Nat → P4} (hu : u < W) (h : inB (QW : Int) (QH : Int) ((u : Int) - x) ((v : Int) - y) = false) (i : Nat) : stP W QW QH x y m px qx (v * W + u + 1) i = stP W QW QH x y m px qx (v * W + u) i := by
  unfold stP
  by_cases e : i = v * W + u
  · subst e
    obtain ⟨e1, e2⟩ := at_mod (y := v) hu
    unfold stB
    rw [e1, e2, h]; simp
  · have : (i < v * W + u + 1) ↔ (i < v * W + u) := by omega
    simp only [this]
theorem stP_yes {W QW QH u v a b : Nat} {x y m : Int} {px qx : Nat → P4} (hu : u < W) (ha : (u : Int) - x = a) (hb : (v : Int) - y = b) (h : inB (QW : Int) (QH : Int) (a : Int) (b : Int) = true) (i : Nat) : stP W QW QH x y m px qx (v * W + u + 1) i = upd (stP W QW QH x y m px qx (v * W + u)) (v * W + u) (P4.over m (qx (b * QW + a)) (px (v * W + u))) i := by
  unfold stP upd
  by_cases e : i = v * W + u
  · subst e
    obtain ⟨e1, e2⟩ := at_mod (y := v) hu
    unfold stB stI
    rw [e1, e2, ha, hb, h]; simp
  · have : (i < v * W + u + 1) ↔ (i < v * W + u) := by omega
    simp only [this, if_neg e]
theorem base_eq {Q a b u v : Nat} (ha : a < Q) (hu : u < Q) (h : b * Q + a = v * Q + u) : a = u ∧ b = v := by
  obtain ⟨e1, e2⟩ := at_mod (y := b) ha
  obtain ⟨e3, e4⟩ := at_mod (y := v) hu
  rw [h] at e1 e2
  exact ⟨e1.symm.trans e3, e2.symm.trans e4⟩
/-- where the stamp's pixel (u, v) lies -/
theorem st_at {W QW QH u v : Nat} {x y : Int} {i : Nat} (hu : u < QW) (hB : stB QW QH W x y i = true) (hI : stI QW W x y i = v * QW + u) : ((i % W : Nat) : Int) = u + x ∧ ((i / W : Nat) : Int) = v + y := by
  obtain ⟨h1, h2, h3, h4⟩ := of_decide_eq_true hB
  unfold stI at hI
  obtain ⟨q1, q2⟩ := base_eq (by omega) hu hI
  omega
theorem stQ_no {W H QW QH u v : Nat} {x y m : Int} {px qx : Nat → P4} (hu : u < QW) (h : inB (W : Int) (H : Int) ((u : Int) + x) ((v : Int) + y) = false) (i : Nat) (hi : i < W * H) : stQ W QW QH x y m px qx (v * QW + u + 1) i = stQ W QW QH x y m px qx (v * QW + u) i := by
  unfold stQ
  obtain ⟨g1, g2⟩ := lin_idx hi
  by_cases hB : stB QW QH W x y i = true
  · by_cases e : stI QW W x y i = v * QW + u
    · obtain ⟨q1, q2⟩ := st_at hu hB e
      generalize i % W = A at *
      generalize i / W = B at *
      exact absurd (show 0 ≤ (u : Int) + x ∧ 0 ≤ (v : Int) + y ∧ (u : Int) + x < W ∧ (v : Int) + y < H by omega) (of_decide_eq_false h)
    · have : (stI QW W x y i < v * QW + u + 1) ↔ (stI QW W x y i < v * QW + u) := by omega
      simp only [this]
  · rw [if_neg (fun q => hB q.1), if_neg (fun q => hB q.1)]
theorem stQ_yes {W H QW QH u v a b : Nat} {x y m : Int} {px qx : Nat → P4} (hu : u < QW) (hv : v < QH) (ha : (u : Int) + x = a) (hb : (v : Int) + y = b) (haW : a < W) (i : Nat) (hi : i < W * H) : stQ W QW QH x y m px qx (v * QW + u + 1) i = upd (stQ W QW QH x y m px qx (v * QW + u)) (b * W + a) (P4.over m (qx (v * QW + u)) (px (b * W + a))) i := by
  unfold stQ upd
  dsimp only
  by_cases e : i = b * W + a
  · subst e
    obtain ⟨e1, e2⟩ := at_mod (y := b) haW
    have hB : stB QW QH W x y (b * W + a) = true := by
      unfold stB; rw [e1, e2]
      exact decide_eq_true ⟨by omega, by omega, by omega, by omega⟩
    have hI : stI QW W x y (b * W + a) = v * QW + u := by
      unfold stI; rw [e1, e2, show ((a : Int) - x).toNat = u by omega, show ((b : Int) - y).toNat = v by omega]
    rw [if_pos ⟨hB, by omega⟩, if_pos rfl, hI]
  · rw [if_neg e]
    by_cases hB : stB QW QH W x y i = true
    · by_cases e2 : stI QW W x y i = v * QW + u
      · obtain ⟨q1, q2⟩ := st_at hu hB e2
        have : i = b * W + a := by
          have := Nat.div_add_mod i W
          rw [Nat.mul_comm] at this
          rw [← this, show i / W = b by omega, show i % W = a by omega]
        exact absurd this e
      · have : (stI QW W x y i < v * QW + u + 1) ↔ (stI QW W x y i < v * QW + u) := by omega
        simp only [this]
    · rw [if_neg (fun q => hB q.1), if_neg (fun q => hB q.1)]
/-- both ways to the same -/
theorem st_same {W H QW QH : Nat} {x y m : Int} {px qx : Nat → P4} (i : Nat) (hi : i < W * H) : stQ W QW QH x y m px qx (QH * QW) i = stP W QW QH x y m px qx (H * W) i := by
  unfold stQ stP
  have h : i < H * W := by rw [Nat.mul_comm]; exact hi
  by_cases hB : stB QW QH W x y i = true
  · obtain ⟨h1, h2, h3, h4⟩ := of_decide_eq_true hB
    have hI : stI QW W x y i < QH * QW := by
      rw [Nat.mul_comm]; unfold stI
      exact mul_lt_of (by omega) (by omega)
    rw [if_pos ⟨hB, hI⟩, if_pos ⟨h, hB⟩]
  · rw [if_neg (fun q => hB q.1), if_neg (fun q => hB q.2)]
end Go.Proofs.YtkfjcgcgfdibaaaDoor
