/- Contract of pixel.Over at every mode there is, whatever the pixels. -/
import Derived.Test.YtkfjcgcgfdibaaaDoorPixOver0
import Derived.Test.YtkfjcgcgfdibaaaDoorPixOver1
import Derived.Test.YtkfjcgcgfdibaaaDoorPixOver2
import Derived.Test.YtkfjcgcgfdibaaaDoorPixOver3
import Derived.Test.YtkfjcgcgfdibaaaDoorPixOver4
import Derived.Test.YtkfjcgcgfdibaaaDoorPixOver5
namespace Go.Proofs.YtkfjcgcgfdibaaaDoor
open Go.RowKit
/-- one pixel over another one -/
def P4.over (m : Int) (p q : P4) : P4 :=
  if Pix.covers p.a q.a = 0 then P4.zero
  else ⟨Pix.color m p.a q.a p.r q.r, Pix.color m p.a q.a p.g q.g, Pix.color m p.a q.a p.b q.b, Pix.rnd (Pix.covers p.a q.a) 255⟩
theorem P4.over_ok (m : Int) (p q : P4) : (P4.over m p q).Ok := by
  unfold P4.over
  split
  · exact P4.zero_ok
  · exact ⟨Pix.rnd_byte _ _, Pix.rnd_byte _ _, Pix.rnd_byte _ _, Pix.rnd_byte _ _⟩
theorem covers_zero {a b : Int} (ha : Pix.Byte a) (hb : Pix.Byte b) (h : Pix.covers a b = 0) : a = 0 ∧ b = 0 := by
  obtain ⟨a0, a1⟩ := ha; obtain ⟨b0, b1⟩ := hb
  have h2 := Pix.mul_bd b0 b1 (show 0 ≤ 255 - a by omega) (show 255 - a ≤ 255 by omega)
  unfold Pix.covers at h
  have ha0 : a = 0 := by omega
  subst ha0
  exact ⟨rfl, by omega⟩
set_option maxRecDepth 100000 in
set_option maxHeartbeats 1000000 in
theorem over_none_any (m r g b r' g' b' : Int) (w : World) (hm : 0 ≤ m ∧ m < 6) :
    Calls Tryd.prog 72 #[.int .i64 m, pixv r g b 0, pixv r' g' b' 0] w fun e w' =>
      e = .returned (.tuple #[pixv 0 0 0 0, .nilIface]) ∧ Below w.heap.size w w' := by
  obtain ⟨hm0, hm1⟩ := hm
  go_enter Tryd.func72, Tryd.ntmps72
  go_upto_region 3 with (go_at_call 71; refine (mode_any _ _).mono ?_; rintro e w' ⟨rfl, rfl⟩)
  go_cut [8, 9] (fun s8 s9 wx => ∃ x y : Nat, s8 = .pointer (some ⟨x, 0, none⟩) ∧ s9 = .pointer (some ⟨y, 0, none⟩) ∧ OverW w wx r g b r' g' b' ∧ wx.cell? ⟨x, 0, none⟩ = some (.int .i64 0) ∧ wx.cell? ⟨y, 0, none⟩ = some (.int .i64 0) ∧ x < wx.heap.size ∧ y < wx.heap.size)
  case first =>
    go_region
    all_goals
      go_wp2_with fail
      go_meet
      refine ⟨_, _, rfl, rfl, ⟨?_, ?_, ?_, ?_, ?_, ?_, ?_, ?_, ?_, ?_, ?_, ?_, ?_, ?_, ?_, ?_⟩, ?_, ?_, ?_, ?_⟩
      · repeat (first | exact Below.refl _ _ | apply Below.drew | refine Below.alloc ?_ (by simp <;> omega) _)
      all_goals first | go_simp | (simp; done) | (simp; omega)
  case rest =>
    obtain ⟨x, y, rfl, rfl, hW, hx, hy, hxy⟩ := hcut
    obtain ⟨hlx, hly⟩ := hxy
    have hW2 := hW.on ((Below.refl _ _).alloc (Nat.le_refl _) (.cells #[.int .i64 0] 3))
    obtain ⟨o1, o2, o3, o4, o5, o6, o7, o8, o9, o10, o11, o12, o13, o14, o15, o16⟩ := hW2
    go_wp2
    refine bodyPost_ret (v := .tuple #[pixv 0 0 0 0, .nilIface]) (by simp [results, Tryd.results72, go_sem, *]) rfl ⟨rfl, ?_⟩
    repeat (first | exact o1 | refine Below.setCell ?_ (by simp <;> omega) _ | apply below_drewN)
theorem over_any (m : Int) (p q : P4) (w : World) (hm : 0 ≤ m ∧ m < 6) (hp : p.Ok) (hq : q.Ok) :
    Calls Tryd.prog 72 #[.int .i64 m, p.val, q.val] w fun e w' => e = .returned (.tuple #[(P4.over m p q).val, .nilIface]) ∧ Below w.heap.size w w' := by
  by_cases hc : Pix.covers p.a q.a = 0
  · obtain ⟨e1, e2⟩ := covers_zero hp.a hq.a hc
    have e3 : P4.over m p q = P4.zero := by unfold P4.over; rw [if_pos hc]
    rw [e3]
    obtain ⟨r, g, b, a⟩ := p
    obtain ⟨r', g', b', a'⟩ := q
    simp only at e1 e2
    subst e1 e2
    exact over_none_any m r g b r' g' b' w hm
  · have hc1 := Pix.covers_pos hp.a hq.a hc
    have e3 : P4.over m p q = ⟨Pix.color m p.a q.a p.r q.r, Pix.color m p.a q.a p.g q.g, Pix.color m p.a q.a p.b q.b, Pix.rnd (Pix.covers p.a q.a) 255⟩ := by unfold P4.over; rw [if_neg hc]
    rw [e3]
    rcases (show m = 0 ∨ m = 1 ∨ m = 2 ∨ m = 3 ∨ m = 4 ∨ m = 5 by omega) with h | h | h | h | h | h
    · subst h; exact over0_any _ _ _ _ _ _ _ _ w hp.r hp.g hp.b hp.a hq.r hq.g hq.b hq.a hc1
    · subst h; exact over1_any _ _ _ _ _ _ _ _ w hp.r hp.g hp.b hp.a hq.r hq.g hq.b hq.a hc1
    · subst h; exact over2_any _ _ _ _ _ _ _ _ w hp.r hp.g hp.b hp.a hq.r hq.g hq.b hq.a hc1
    · subst h; exact over3_any _ _ _ _ _ _ _ _ w hp.r hp.g hp.b hp.a hq.r hq.g hq.b hq.a hc1
    · subst h; exact over4_any _ _ _ _ _ _ _ _ w hp.r hp.g hp.b hp.a hq.r hq.g hq.b hq.a hc1
    · subst h; exact over5_any _ _ _ _ _ _ _ _ w hp.r hp.g hp.b hp.a hq.r hq.g hq.b hq.a hc1
/-- the laws, of pixels whole -/
theorem P4.over_zero (m : Int) (p : P4) (hp : p.Ok) (h : p.a ≠ 0) : P4.over m p P4.zero = p := by
  obtain ⟨r, g, b, a⟩ := p
  obtain ⟨a0, a1⟩ := hp.a
  simp only at a0 a1 h
  have ha : 1 ≤ a := by omega
  unfold P4.over P4.zero
  simp only
  rw [if_neg (by unfold Pix.covers; omega), Pix.over_none m a r ha a1 hp.r, Pix.over_none m a g ha a1 hp.g, Pix.over_none m a b ha a1 hp.b]
  congr 1
  have : Pix.covers a 0 = a * 255 := by unfold Pix.covers; omega
  rw [this]; exact Pix.rnd_exact _ _ (by omega) ⟨a0, a1⟩
theorem P4.zero_over (m : Int) (p : P4) (hp : p.Ok) (h : p.a ≠ 0) : P4.over m P4.zero p = p := by
  obtain ⟨r, g, b, a⟩ := p
  obtain ⟨a0, a1⟩ := hp.a
  simp only at a0 a1 h
  have ha : 1 ≤ a := by omega
  unfold P4.over P4.zero
  simp only
  rw [if_neg (by unfold Pix.covers; omega), Pix.under_none m a r ha a1 hp.r, Pix.under_none m a g ha a1 hp.g, Pix.under_none m a b ha a1 hp.b]
  congr 1
  have : Pix.covers 0 a = a * 255 := by unfold Pix.covers; omega
  rw [this]; exact Pix.rnd_exact _ _ (by omega) ⟨a0, a1⟩
theorem P4.over_nought (m : Int) (p q : P4) (hp : p.a = 0) (hq : q.a = 0) : P4.over m p q = P4.zero := by
  unfold P4.over; rw [if_pos (by rw [hp, hq]; rfl)]
theorem P4.full_over (p q : P4) (hp : p.Ok) (hq : q.Ok) (h : p.a = 255) : P4.over 0 p q = p := by
  obtain ⟨r, g, b, a⟩ := p
  obtain ⟨a0, a1⟩ := hq.a
  simp only at h
  subst h
  unfold P4.over
  simp only
  rw [if_neg (by unfold Pix.covers; omega), Pix.full_hides _ _ _ hq.a hp.r, Pix.full_hides _ _ _ hq.a hp.g, Pix.full_hides _ _ _ hq.a hp.b]
  congr 1
  have : Pix.covers 255 q.a = 255 * 255 := by unfold Pix.covers; omega
  rw [this]; rfl
theorem P4.over_comm (m : Int) (p q : P4) (hm : m ≠ 0) (h : p.a = q.a) : P4.over m p q = P4.over m q p := by
  unfold P4.over
  rw [h, Pix.color_comm m q.a p.r q.r hm, Pix.color_comm m q.a p.g q.g hm, Pix.color_comm m q.a p.b q.b hm]
theorem P4.over_alpha (m n : Int) (p q : P4) (hp : p.Ok) (hq : q.Ok) : (P4.over m p q).a = (P4.over n q p).a ∧ p.a ≤ (P4.over m p q).a ∧ q.a ≤ (P4.over m p q).a := by
  have hcc := Pix.covers_comm p.a q.a
  by_cases hc : Pix.covers p.a q.a = 0
  · obtain ⟨e1, e2⟩ := covers_zero hp.a hq.a hc
    rw [P4.over_nought m p q e1 e2, P4.over_nought n q p e2 e1, e1, e2]
    exact ⟨rfl, by decide, by decide⟩
  · have h1 : (P4.over m p q).a = Pix.rnd (Pix.covers p.a q.a) 255 := by unfold P4.over; rw [if_neg hc]
    have h2 : (P4.over n q p).a = Pix.rnd (Pix.covers q.a p.a) 255 := by unfold P4.over; rw [if_neg (by rw [← hcc]; exact hc)]
    rw [h1, h2]
    refine ⟨by rw [hcc], Pix.alpha_ge _ _ hp.a hq.a, ?_⟩
    rw [hcc]; exact Pix.alpha_ge _ _ hq.a hp.a
end Go.Proofs.YtkfjcgcgfdibaaaDoor
