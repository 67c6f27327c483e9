/- Contract of pixel.Over at mode 0: what it computes; new blocks alone are made. -/
import Derived.Test.YtkfjcgcgfdibaaaDoorPixBase
namespace Go.Proofs.YtkfjcgcgfdibaaaDoor
open Go.RowKit
set_option maxRecDepth 100000 in
set_option maxHeartbeats 1000000 in
theorem over0_any (r g b a r' g' b' a' : Int) (w : World) (hr : Pix.Byte r) (hg : Pix.Byte g) (hb : Pix.Byte b) (ha : Pix.Byte a) (hr' : Pix.Byte r') (hg' : Pix.Byte g') (hb' : Pix.Byte b') (ha' : Pix.Byte a')
    (hc : 1 ≤ Pix.covers a a') :
    Calls Tryd.prog 72 #[.int .i64 0, pixv r g b a, pixv r' g' b' a'] w fun e w' =>
      e = .returned (.tuple #[pixv (Pix.color 0 a a' r r') (Pix.color 0 a a' g g') (Pix.color 0 a a' b b') (Pix.rnd (Pix.covers a a') 255), .nilIface]) ∧ Below w.heap.size w w' := by
  have hcv := Pix.covers_bd ha ha'
  have HC : Hid (Pix.covers a a' = 255 * a + a' * (255 - a)) := rfl
  have e0 : ((Pix.covers a a' : Int) == 0) = false := by rw [beq_eq_false_iff_ne]; omega
  unfold Pix.covers at e0 hc hcv
  have p2 := Pix.mul_bd ha'.1 ha'.2 (show 0 ≤ 255 - a by have := ha.2; omega) (show 255 - a ≤ 255 by have := ha.1; omega)
  have ba := ha
  have ba' := ha'
  unfold Pix.Byte at ba ba'
  obtain ⟨ba0, ba1⟩ := ba
  obtain ⟨bb0, bb1⟩ := ba'
  have hix : ∀ w : World, (Instr.index 129 (.agg #[.func (.func 115) #[] #[], .func (.func 116) #[] #[], .func (.func 117) #[] #[], .func (.func 118) #[] #[], .func (.func 119) #[] #[], .func (.func 120) #[] #[]]) (.int .i64 0)).run Tryd.prog w = .ok (.func (.func 115) #[] #[]) w := fun _ => by kernel_rfl
  go_enter Tryd.func72, Tryd.ntmps72
  go_upto_region 3 with (go_at_call 71; refine (mode_any _ _).mono ?_; rintro e w' ⟨rfl, rfl⟩)
  go_cut [8, 9] (fun s8 s9 wx => ∃ x y : Nat, s8 = .pointer (some ⟨x, 0, none⟩) ∧ s9 = .pointer (some ⟨y, 0, none⟩) ∧ OverW w wx r g b r' g' b' ∧ wx.cell? ⟨x, 0, none⟩ = some (.int .i64 a) ∧ wx.cell? ⟨y, 0, none⟩ = some (.int .i64 a') ∧ x < wx.heap.size ∧ y < wx.heap.size)
  case first =>
    go_region
    all_goals
      go_wp2_with fail
      go_meet
      refine ⟨_, _, rfl, rfl, ⟨?_, ?_, ?_, ?_, ?_, ?_, ?_, ?_, ?_, ?_, ?_, ?_, ?_, ?_, ?_, ?_⟩, ?_, ?_, ?_, ?_⟩
      · repeat (first | exact Below.refl _ _ | apply Below.drew | refine Below.alloc ?_ (by simp <;> omega) _)
      all_goals first | go_simp | (simp; done) | (simp; omega)
  case rest =>
    obtain ⟨x, y, rfl, rfl, hW, hx, hy, hxy⟩ := hcut
    obtain ⟨hlx, hly⟩ := hxy
    go_wp2_with (go_at_call 99; refine (blends_any _).mono ?_; rintro e w1 ⟨rfl, hb1⟩)
    have hB2 : Below wc.heap.size wc (w1.alloc (.cells #[.func (.func 115) #[] #[]] 100)) := by
      have q1 : Below wc.heap.size wc w1 := ((Below.refl _ _).alloc (Nat.le_refl _) _).trans (hb1.mono (by simp))
      exact q1.alloc q1.size _
    have hf2 : (w1.alloc (.cells #[.func (.func 115) #[] #[]] 100)).cell? ⟨w1.heap.size, 0, none⟩ = some (.func (.func 115) #[] #[]) := by go_simp
    have hcc : (w1.alloc (.cells #[.func (.func 115) #[] #[]] 100)).cell? ⟨wc.heap.size, 0, none⟩ = some (.int .i64 (255 * a + a' * (255 - a))) := by
      have hlt : wc.heap.size < w1.heap.size := by have := hb1.size; simp at this; omega
      rw [World.cell?_alloc_past _ _ _ hlt]
      exact (hb1.cell (by simp)).trans (by go_simp)
    generalize w1.alloc (.cells #[.func (.func 115) #[] #[]] 100) = w2 at *
    generalize w1.heap.size = pf at *
    have hx2 : w2.cell? ⟨x, 0, none⟩ = some (.int .i64 a) := (hB2.cell hlx).trans hx
    have hy2 : w2.cell? ⟨y, 0, none⟩ = some (.int .i64 a') := (hB2.cell hly).trans hy
    obtain ⟨o1, o2, o3, o4, o5, o6, o7, o8, o9, o10, o11, o12, o13, o14, o15, o16⟩ := hW.on hB2
    have hpc := hW.size
    generalize wc.heap.size = pc at *
    have hcol := fun (s d : Int) (W : World) (hs : Pix.Byte s) (hd : Pix.Byte d) (hq : ColorCells W ⟨x, 0, none⟩ ⟨y, 0, none⟩ ⟨pf, 0, none⟩ ⟨pc, 0, none⟩ a a' (Pix.covers a a') 115) => color0_any s d a a' _ _ _ _ W hs hd ha ha' (by rw [HC.out]; exact hc) hq
    have HCOL := Lib.hid hcol
    clear hcol hix hx hy hW hB2 hb1
    go_wp2_with fail
    go_region_held3 (fun w' => w'.cell? ⟨w.heap.size, 0, none⟩ = some (.int .u8 r) ∧ w'.cell? ⟨w.heap.size, 1, none⟩ = some (.int .u8 g) ∧ w'.cell? ⟨w.heap.size, 2, none⟩ = some (.int .u8 b) ∧ w'.cell? ⟨w.heap.size + 1, 0, none⟩ = some (.int .u8 r') ∧ w'.cell? ⟨w.heap.size + 1, 1, none⟩ = some (.int .u8 g') ∧ w'.cell? ⟨w.heap.size + 1, 2, none⟩ = some (.int .u8 b') ∧ w'.cell? ⟨pc, 0, none⟩ = some (.int .i64 (255 * a + a' * (255 - a)))) (first | (simp [*]; done) | (refine ⟨?_, ?_, ?_, ?_, ?_, ?_, ?_⟩ <;> ((repeat rw [World.cell?_setCell_far _ _ _ _ (by simp <;> omega)]) <;> simp [*])))
      (first
        | (go_at_call 100; refine (HCOL.out _ _ _ (by assumption) (by assumption) ?_).mono ?_; (exact ⟨by simp [*], by simp [*], by simp [*], by rw [HC.out]; simp [*]⟩); rintro e w' ⟨rfl, nn, rfl⟩)
        | (go_at_call 101; refine (round_any _ _ _ (by omega) (by omega) (by omega) (by omega)).mono ?_; rintro e w' ⟨rfl, rfl⟩))
    clear HCOL
    go_wp2
    rw [HC.out]
    refine bodyPost_ret (v := .tuple #[pixv (Pix.color 0 a a' r r') (Pix.color 0 a a' g g') (Pix.color 0 a a' b b') (Pix.rnd (255 * a + a' * (255 - a)) 255), .nilIface]) (by simp [results, Tryd.results72, go_sem, *]) rfl ⟨rfl, ?_⟩
    repeat (first | exact o1 | refine Below.setCell ?_ (by simp <;> omega) _ | apply below_drewN)
end Go.Proofs.YtkfjcgcgfdibaaaDoor
