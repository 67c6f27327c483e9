/- Contracts of package pixel's Over, and of what it calls: what they compute; new blocks alone are made. -/
import Derived.Test.YtkfjcgcgfdibaaaDoorMem
import Derived.Test.YtkfjcgcgfdibaaaDoorPix
import Derived.Laws.EntriesVeiled
namespace Go.Proofs.YtkfjcgcgfdibaaaDoor
open Go.RowKit
theorem round_any (n d : Int) (w : World) (h0 : 0 ≤ n) (h1 : n ≤ 1000000000000) (d0 : 1 ≤ d) (d1 : d ≤ 1000000000000) :
    Calls Tryd.prog 101 #[.int .i64 n, .int .i64 d] w fun e w' => e = .returned (.int .u8 (Pix.rnd n d)) ∧ w = w' := by
  go_enter Tryd.func101, Tryd.ntmps101
  go_wp2
  go_ret
  exact ⟨rfl, rfl⟩
theorem mode_any (m : Int) (w : World) : Calls Tryd.prog 71 #[.int .i64 m] w fun e w' => e = .returned (.bool (decide (0 ≤ m) && decide (m < 6))) ∧ w = w' := by
  go_enter Tryd.func71, Tryd.ntmps71
  go_wp2
  all_goals go_ret
  all_goals (refine ⟨ret_bool ?_, rfl⟩; simp; omega)
theorem blend0_any (s d : Int) (w : World) (hs : Pix.Byte s) (_hd : Pix.Byte d) : Calls Tryd.prog 115 #[.int .i64 s, .int .i64 d] w fun e w' => e = .returned (.int .i64 (Pix.blend 0 s d)) ∧ w = w' := by
  obtain ⟨s0, s1⟩ := hs
  go_enter Tryd.func115, Tryd.ntmps115
  go_wp2
  go_ret
  exact ⟨rfl, rfl⟩
theorem blend1_any (s d : Int) (w : World) (hs : Pix.Byte s) (hd : Pix.Byte d) : Calls Tryd.prog 116 #[.int .i64 s, .int .i64 d] w fun e w' => e = .returned (.int .i64 (Pix.blend 1 s d)) ∧ w = w' := by
  obtain ⟨p0, p1⟩ := Pix.mul_bd hs.1 hs.2 hd.1 hd.2
  go_enter Tryd.func116, Tryd.ntmps116
  go_wp2
  go_ret
  exact ⟨rfl, rfl⟩
theorem blend2_any (s d : Int) (w : World) (hs : Pix.Byte s) (hd : Pix.Byte d) : Calls Tryd.prog 117 #[.int .i64 s, .int .i64 d] w fun e w' => e = .returned (.int .i64 (Pix.blend 2 s d)) ∧ w = w' := by
  obtain ⟨p0, p1⟩ := Pix.mul_bd hs.1 hs.2 hd.1 hd.2
  obtain ⟨s0, s1⟩ := hs
  obtain ⟨d0, d1⟩ := hd
  go_enter Tryd.func117, Tryd.ntmps117
  go_wp2
  go_ret
  exact ⟨rfl, rfl⟩
theorem blend3_any (s d : Int) (w : World) (hs : Pix.Byte s) (hd : Pix.Byte d) : Calls Tryd.prog 118 #[.int .i64 s, .int .i64 d] w fun e w' => e = .returned (.int .i64 (Pix.blend 3 s d)) ∧ w = w' := by
  obtain ⟨s0, s1⟩ := hs
  obtain ⟨d0, d1⟩ := hd
  go_enter Tryd.func118, Tryd.ntmps118
  go_wp2
  all_goals (go_ret; exact ⟨ret_int (by simp [Pix.blend]; omega), rfl⟩)
theorem blend4_any (s d : Int) (w : World) (hs : Pix.Byte s) (hd : Pix.Byte d) : Calls Tryd.prog 119 #[.int .i64 s, .int .i64 d] w fun e w' => e = .returned (.int .i64 (Pix.blend 4 s d)) ∧ w = w' := by
  obtain ⟨s0, s1⟩ := hs
  obtain ⟨d0, d1⟩ := hd
  go_enter Tryd.func119, Tryd.ntmps119
  go_wp2
  all_goals (go_ret; exact ⟨ret_int (by simp [Pix.blend]; omega), rfl⟩)
theorem blend5_any (s d : Int) (w : World) (hs : Pix.Byte s) (hd : Pix.Byte d) : Calls Tryd.prog 120 #[.int .i64 s, .int .i64 d] w fun e w' => e = .returned (.int .i64 (Pix.blend 5 s d)) ∧ w = w' := by
  obtain ⟨s0, s1⟩ := hs
  obtain ⟨d0, d1⟩ := hd
  go_enter Tryd.func120, Tryd.ntmps120
  go_wp2
  all_goals (go_ret; exact ⟨ret_int (by simp [Pix.blend]; omega), rfl⟩)

theorem blends_any (w : World) : Calls Tryd.prog 99 #[] w fun e w' => e = .returned (.agg #[.func (.func 115) #[] #[], .func (.func 116) #[] #[], .func (.func 117) #[] #[], .func (.func 118) #[] #[], .func (.func 119) #[] #[], .func (.func 120) #[] #[]]) ∧ Below w.heap.size w w' := by
  go_enter Tryd.func99, Tryd.ntmps99
  go_wp2
  exact bodyPost_ret (v := .agg #[.func (.func 115) #[] #[], .func (.func 116) #[] #[], .func (.func 117) #[] #[], .func (.func 118) #[] #[], .func (.func 119) #[] #[], .func (.func 120) #[] #[]]) (by simp [results, Tryd.results99, go_sem]) rfl ⟨rfl, (Below.refl _ _).alloc (Nat.le_refl _) _⟩
/-- what the closure of Over captures: four variables, as they stand -/
def ColorCells (w : World) (pa pb pf pc : Addr) (a b c : Int) (f : FuncId) : Prop :=
  w.cell? pa = some (.int .i64 a) ∧ w.cell? pb = some (.int .i64 b) ∧ w.cell? pf = some (.func (.func f) #[] #[]) ∧ w.cell? pc = some (.int .i64 c)
set_option maxHeartbeats 1000000 in
theorem color0_any (s d a b : Int) (pa pb pf pc : Addr) (w : World) (hs : Pix.Byte s) (hd : Pix.Byte d) (ha : Pix.Byte a) (hb : Pix.Byte b) (hc : 1 ≤ Pix.covers a b)
    (hcells : ColorCells w pa pb pf pc a b (Pix.covers a b) 115) :
    Calls Tryd.prog 100 #[.int .u8 s, .int .u8 d, .pointer (some pa), .pointer (some pb), .pointer (some pf), .pointer (some pc)] w fun e w' => e = .returned (.int .u8 (Pix.color 0 a b s d)) ∧ ∃ n, w' = w.drewN n := by
  obtain ⟨h1, h2, h3, h4⟩ := hcells
  have hbl := Pix.blend_bd (m := 0) hs hd
  have hcv := Pix.covers_bd ha hb
  have hn := Pix.num_bd (m := 0) ha hb hs hd
  unfold Pix.num at hn
  have HB := Lib.hid (fun W => blend0_any s d W hs hd)
  obtain ⟨s0, s1⟩ := hs
  obtain ⟨d0, d1⟩ := hd
  obtain ⟨a0, a1⟩ := ha
  obtain ⟨b0, b1⟩ := hb
  have p1 := Pix.mul_bd a0 a1 (show 0 ≤ 255 - b by omega) (show 255 - b ≤ 255 by omega)
  have p2 := Pix.mul_bd b0 b1 (show 0 ≤ 255 - a by omega) (show 255 - a ≤ 255 by omega)
  have p3 := Pix.mul_bd a0 a1 b0 b1
  have q1 := Pix.mul_bd p1.1 p1.2 s0 s1
  have q2 := Pix.mul_bd p2.1 p2.2 d0 d1
  have q3 := Pix.mul_bd p3.1 p3.2 hbl.1 hbl.2
  have HF : Hid (Pix.color 0 a b s d = Pix.rnd (255 * (a * (255 - b) * s + b * (255 - a) * d) + a * b * Pix.blend 0 s d) (255 * Pix.covers a b)) := rfl
  generalize Pix.covers a b = c at *
  generalize Pix.blend 0 s d = t at *
  go_enter Tryd.func100, Tryd.ntmps100
  go_wp2
  go_quiet ((first | (go_at_call 115; exact (HB.out _).mono fun _ _ ⟨he, hm⟩ => ⟨he, _, hm.symm⟩) | (go_at_call 101; exact (round_any _ _ _ (by omega) (by omega) (by omega) (by omega)).mono fun _ _ ⟨he, hm⟩ => ⟨he, _, hm.symm⟩)))
  go_wp2
  go_ret
  exact ⟨by rw [HF.out]; rfl, _, rfl⟩
set_option maxHeartbeats 1000000 in
theorem color1_any (s d a b : Int) (pa pb pf pc : Addr) (w : World) (hs : Pix.Byte s) (hd : Pix.Byte d) (ha : Pix.Byte a) (hb : Pix.Byte b) (hc : 1 ≤ Pix.covers a b)
    (hcells : ColorCells w pa pb pf pc a b (Pix.covers a b) 116) :
    Calls Tryd.prog 100 #[.int .u8 s, .int .u8 d, .pointer (some pa), .pointer (some pb), .pointer (some pf), .pointer (some pc)] w fun e w' => e = .returned (.int .u8 (Pix.color 1 a b s d)) ∧ ∃ n, w' = w.drewN n := by
  obtain ⟨h1, h2, h3, h4⟩ := hcells
  have hbl := Pix.blend_bd (m := 1) hs hd
  have hcv := Pix.covers_bd ha hb
  have hn := Pix.num_bd (m := 1) ha hb hs hd
  unfold Pix.num at hn
  have HB := Lib.hid (fun W => blend1_any s d W hs hd)
  obtain ⟨s0, s1⟩ := hs
  obtain ⟨d0, d1⟩ := hd
  obtain ⟨a0, a1⟩ := ha
  obtain ⟨b0, b1⟩ := hb
  have p1 := Pix.mul_bd a0 a1 (show 0 ≤ 255 - b by omega) (show 255 - b ≤ 255 by omega)
  have p2 := Pix.mul_bd b0 b1 (show 0 ≤ 255 - a by omega) (show 255 - a ≤ 255 by omega)
  have p3 := Pix.mul_bd a0 a1 b0 b1
  have q1 := Pix.mul_bd p1.1 p1.2 s0 s1
  have q2 := Pix.mul_bd p2.1 p2.2 d0 d1
  have q3 := Pix.mul_bd p3.1 p3.2 hbl.1 hbl.2
  have HF : Hid (Pix.color 1 a b s d = Pix.rnd (255 * (a * (255 - b) * s + b * (255 - a) * d) + a * b * Pix.blend 1 s d) (255 * Pix.covers a b)) := rfl
  generalize Pix.covers a b = c at *
  generalize Pix.blend 1 s d = t at *
  go_enter Tryd.func100, Tryd.ntmps100
  go_wp2
  go_quiet ((first | (go_at_call 116; exact (HB.out _).mono fun _ _ ⟨he, hm⟩ => ⟨he, _, hm.symm⟩) | (go_at_call 101; exact (round_any _ _ _ (by omega) (by omega) (by omega) (by omega)).mono fun _ _ ⟨he, hm⟩ => ⟨he, _, hm.symm⟩)))
  go_wp2
  go_ret
  exact ⟨by rw [HF.out]; rfl, _, rfl⟩
set_option maxHeartbeats 1000000 in
theorem color2_any (s d a b : Int) (pa pb pf pc : Addr) (w : World) (hs : Pix.Byte s) (hd : Pix.Byte d) (ha : Pix.Byte a) (hb : Pix.Byte b) (hc : 1 ≤ Pix.covers a b)
    (hcells : ColorCells w pa pb pf pc a b (Pix.covers a b) 117) :
    Calls Tryd.prog 100 #[.int .u8 s, .int .u8 d, .pointer (some pa), .pointer (some pb), .pointer (some pf), .pointer (some pc)] w fun e w' => e = .returned (.int .u8 (Pix.color 2 a b s d)) ∧ ∃ n, w' = w.drewN n := by
  obtain ⟨h1, h2, h3, h4⟩ := hcells
  have hbl := Pix.blend_bd (m := 2) hs hd
  have hcv := Pix.covers_bd ha hb
  have hn := Pix.num_bd (m := 2) ha hb hs hd
  unfold Pix.num at hn
  have HB := Lib.hid (fun W => blend2_any s d W hs hd)
  obtain ⟨s0, s1⟩ := hs
  obtain ⟨d0, d1⟩ := hd
  obtain ⟨a0, a1⟩ := ha
  obtain ⟨b0, b1⟩ := hb
  have p1 := Pix.mul_bd a0 a1 (show 0 ≤ 255 - b by omega) (show 255 - b ≤ 255 by omega)
  have p2 := Pix.mul_bd b0 b1 (show 0 ≤ 255 - a by omega) (show 255 - a ≤ 255 by omega)
  have p3 := Pix.mul_bd a0 a1 b0 b1
  have q1 := Pix.mul_bd p1.1 p1.2 s0 s1
  have q2 := Pix.mul_bd p2.1 p2.2 d0 d1
  have q3 := Pix.mul_bd p3.1 p3.2 hbl.1 hbl.2
  have HF : Hid (Pix.color 2 a b s d = Pix.rnd (255 * (a * (255 - b) * s + b * (255 - a) * d) + a * b * Pix.blend 2 s d) (255 * Pix.covers a b)) := rfl
  generalize Pix.covers a b = c at *
  generalize Pix.blend 2 s d = t at *
  go_enter Tryd.func100, Tryd.ntmps100
  go_wp2
  go_quiet ((first | (go_at_call 117; exact (HB.out _).mono fun _ _ ⟨he, hm⟩ => ⟨he, _, hm.symm⟩) | (go_at_call 101; exact (round_any _ _ _ (by omega) (by omega) (by omega) (by omega)).mono fun _ _ ⟨he, hm⟩ => ⟨he, _, hm.symm⟩)))
  go_wp2
  go_ret
  exact ⟨by rw [HF.out]; rfl, _, rfl⟩
set_option maxHeartbeats 1000000 in
theorem color3_any (s d a b : Int) (pa pb pf pc : Addr) (w : World) (hs : Pix.Byte s) (hd : Pix.Byte d) (ha : Pix.Byte a) (hb : Pix.Byte b) (hc : 1 ≤ Pix.covers a b)
    (hcells : ColorCells w pa pb pf pc a b (Pix.covers a b) 118) :
    Calls Tryd.prog 100 #[.int .u8 s, .int .u8 d, .pointer (some pa), .pointer (some pb), .pointer (some pf), .pointer (some pc)] w fun e w' => e = .returned (.int .u8 (Pix.color 3 a b s d)) ∧ ∃ n, w' = w.drewN n := by
  obtain ⟨h1, h2, h3, h4⟩ := hcells
  have hbl := Pix.blend_bd (m := 3) hs hd
  have hcv := Pix.covers_bd ha hb
  have hn := Pix.num_bd (m := 3) ha hb hs hd
  unfold Pix.num at hn
  have HB := Lib.hid (fun W => blend3_any s d W hs hd)
  obtain ⟨s0, s1⟩ := hs
  obtain ⟨d0, d1⟩ := hd
  obtain ⟨a0, a1⟩ := ha
  obtain ⟨b0, b1⟩ := hb
  have p1 := Pix.mul_bd a0 a1 (show 0 ≤ 255 - b by omega) (show 255 - b ≤ 255 by omega)
  have p2 := Pix.mul_bd b0 b1 (show 0 ≤ 255 - a by omega) (show 255 - a ≤ 255 by omega)
  have p3 := Pix.mul_bd a0 a1 b0 b1
  have q1 := Pix.mul_bd p1.1 p1.2 s0 s1
  have q2 := Pix.mul_bd p2.1 p2.2 d0 d1
  have q3 := Pix.mul_bd p3.1 p3.2 hbl.1 hbl.2
  have HF : Hid (Pix.color 3 a b s d = Pix.rnd (255 * (a * (255 - b) * s + b * (255 - a) * d) + a * b * Pix.blend 3 s d) (255 * Pix.covers a b)) := rfl
  generalize Pix.covers a b = c at *
  generalize Pix.blend 3 s d = t at *
  go_enter Tryd.func100, Tryd.ntmps100
  go_wp2
  go_quiet ((first | (go_at_call 118; exact (HB.out _).mono fun _ _ ⟨he, hm⟩ => ⟨he, _, hm.symm⟩) | (go_at_call 101; exact (round_any _ _ _ (by omega) (by omega) (by omega) (by omega)).mono fun _ _ ⟨he, hm⟩ => ⟨he, _, hm.symm⟩)))
  go_wp2
  go_ret
  exact ⟨by rw [HF.out]; rfl, _, rfl⟩
set_option maxHeartbeats 1000000 in
theorem color4_any (s d a b : Int) (pa pb pf pc : Addr) (w : World) (hs : Pix.Byte s) (hd : Pix.Byte d) (ha : Pix.Byte a) (hb : Pix.Byte b) (hc : 1 ≤ Pix.covers a b)
    (hcells : ColorCells w pa pb pf pc a b (Pix.covers a b) 119) :
    Calls Tryd.prog 100 #[.int .u8 s, .int .u8 d, .pointer (some pa), .pointer (some pb), .pointer (some pf), .pointer (some pc)] w fun e w' => e = .returned (.int .u8 (Pix.color 4 a b s d)) ∧ ∃ n, w' = w.drewN n := by
  obtain ⟨h1, h2, h3, h4⟩ := hcells
  have hbl := Pix.blend_bd (m := 4) hs hd
  have hcv := Pix.covers_bd ha hb
  have hn := Pix.num_bd (m := 4) ha hb hs hd
  unfold Pix.num at hn
  have HB := Lib.hid (fun W => blend4_any s d W hs hd)
  obtain ⟨s0, s1⟩ := hs
  obtain ⟨d0, d1⟩ := hd
  obtain ⟨a0, a1⟩ := ha
  obtain ⟨b0, b1⟩ := hb
  have p1 := Pix.mul_bd a0 a1 (show 0 ≤ 255 - b by omega) (show 255 - b ≤ 255 by omega)
  have p2 := Pix.mul_bd b0 b1 (show 0 ≤ 255 - a by omega) (show 255 - a ≤ 255 by omega)
  have p3 := Pix.mul_bd a0 a1 b0 b1
  have q1 := Pix.mul_bd p1.1 p1.2 s0 s1
  have q2 := Pix.mul_bd p2.1 p2.2 d0 d1
  have q3 := Pix.mul_bd p3.1 p3.2 hbl.1 hbl.2
  have HF : Hid (Pix.color 4 a b s d = Pix.rnd (255 * (a * (255 - b) * s + b * (255 - a) * d) + a * b * Pix.blend 4 s d) (255 * Pix.covers a b)) := rfl
  generalize Pix.covers a b = c at *
  generalize Pix.blend 4 s d = t at *
  go_enter Tryd.func100, Tryd.ntmps100
  go_wp2
  go_quiet ((first | (go_at_call 119; exact (HB.out _).mono fun _ _ ⟨he, hm⟩ => ⟨he, _, hm.symm⟩) | (go_at_call 101; exact (round_any _ _ _ (by omega) (by omega) (by omega) (by omega)).mono fun _ _ ⟨he, hm⟩ => ⟨he, _, hm.symm⟩)))
  go_wp2
  go_ret
  exact ⟨by rw [HF.out]; rfl, _, rfl⟩
set_option maxHeartbeats 1000000 in
theorem color5_any (s d a b : Int) (pa pb pf pc : Addr) (w : World) (hs : Pix.Byte s) (hd : Pix.Byte d) (ha : Pix.Byte a) (hb : Pix.Byte b) (hc : 1 ≤ Pix.covers a b)
    (hcells : ColorCells w pa pb pf pc a b (Pix.covers a b) 120) :
    Calls Tryd.prog 100 #[.int .u8 s, .int .u8 d, .pointer (some pa), .pointer (some pb), .pointer (some pf), .pointer (some pc)] w fun e w' => e = .returned (.int .u8 (Pix.color 5 a b s d)) ∧ ∃ n, w' = w.drewN n := by
  obtain ⟨h1, h2, h3, h4⟩ := hcells
  have hbl := Pix.blend_bd (m := 5) hs hd
  have hcv := Pix.covers_bd ha hb
  have hn := Pix.num_bd (m := 5) ha hb hs hd
  unfold Pix.num at hn
  have HB := Lib.hid (fun W => blend5_any s d W hs hd)
  obtain ⟨s0, s1⟩ := hs
  obtain ⟨d0, d1⟩ := hd
  obtain ⟨a0, a1⟩ := ha
  obtain ⟨b0, b1⟩ := hb
  have p1 := Pix.mul_bd a0 a1 (show 0 ≤ 255 - b by omega) (show 255 - b ≤ 255 by omega)
  have p2 := Pix.mul_bd b0 b1 (show 0 ≤ 255 - a by omega) (show 255 - a ≤ 255 by omega)
  have p3 := Pix.mul_bd a0 a1 b0 b1
  have q1 := Pix.mul_bd p1.1 p1.2 s0 s1
  have q2 := Pix.mul_bd p2.1 p2.2 d0 d1
  have q3 := Pix.mul_bd p3.1 p3.2 hbl.1 hbl.2
  have HF : Hid (Pix.color 5 a b s d = Pix.rnd (255 * (a * (255 - b) * s + b * (255 - a) * d) + a * b * Pix.blend 5 s d) (255 * Pix.covers a b)) := rfl
  generalize Pix.covers a b = c at *
  generalize Pix.blend 5 s d = t at *
  go_enter Tryd.func100, Tryd.ntmps100
  go_wp2
  go_quiet ((first | (go_at_call 120; exact (HB.out _).mono fun _ _ ⟨he, hm⟩ => ⟨he, _, hm.symm⟩) | (go_at_call 101; exact (round_any _ _ _ (by omega) (by omega) (by omega) (by omega)).mono fun _ _ ⟨he, hm⟩ => ⟨he, _, hm.symm⟩)))
  go_wp2
  go_ret
  exact ⟨by rw [HF.out]; rfl, _, rfl⟩
end Go.Proofs.YtkfjcgcgfdibaaaDoor
