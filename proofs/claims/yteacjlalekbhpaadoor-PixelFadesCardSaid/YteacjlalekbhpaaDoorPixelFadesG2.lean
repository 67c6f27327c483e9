/-
  Contract of pixel.Over at every mode there is, whatever the pixels.
  The walks of PixelStill and PixelCovers: whatever the input, they return true; new blocks alone are made.
  Contracts of the document's answer for one pixel over another one.
  errors.Is at a sentinel: of a sentinel, of an api.Fault that bears one. The library's own text is walked.
  errors.As at a target of type **api.Fault: of nil, of a sentinel, of an api.Fault. The library's own text is walked.
-/
import Derived.Test.YteacjlalekbhpaaDoorPixelFadesG1
import Derived.LaidEql
import Derived.Stop.Asserts
import Derived.RowKitTokens
namespace Go.Proofs.YteacjlalekbhpaaDoor
open Go.RowKit
set_option linter.unusedSimpArgs false
/-- one pixel over another one -/
def P4.over (m : Int) (p q : P4) : P4 :=
  if Pix.covers p.a q.a = 0 then P4.zero
  else ⟨Pix.color m p.a q.a p.r q.r, Pix.color m p.a q.a p.g q.g, Pix.color m p.a q.a p.b q.b, Pix.rnd (Pix.covers p.a q.a) 255⟩
theorem P4.over_ok (m : Int) (p q : P4) : (P4.over m p q).Ok := by
  unfold P4.over
  split
  · exact P4.zero_ok
  · exact ⟨Pix.rnd_byte _ _, Pix.rnd_byte _ _, Pix.rnd_byte _ _, Pix.rnd_byte _ _⟩
theorem covers_zero {a b : Int} (ha : Pix.Byte a) (hb : Pix.Byte b) (h : Pix.covers a b = 0) : a = 0 ∧ b = 0 := by
  obtain ⟨a0, a1⟩ := ha; obtain ⟨b0, b1⟩ := hb
  have h2 := Pix.mul_bd b0 b1 (show 0 ≤ 255 - a by omega) (show 255 - a ≤ 255 by omega)
  unfold Pix.covers at h
  have ha0 : a = 0 := by omega
  subst ha0
  exact ⟨rfl, by omega⟩
set_option maxRecDepth 100000 in
set_option maxHeartbeats 1000000 in
theorem over_none_any (m r g b r' g' b' : Int) (w : World) (hm : 0 ≤ m ∧ m < 6) :
    Calls Tryd.prog 20 #[.int .i64 m, pixv r g b 0, pixv r' g' b' 0] w fun e w' =>
      e = .returned (.tuple #[pixv 0 0 0 0, .nilIface]) ∧ Below w.heap.size w w' := by
  obtain ⟨hm0, hm1⟩ := hm
  go_enter Tryd.func20, Tryd.ntmps20
  go_upto_region 3 with (go_at_call 37; refine (mode_any _ _).mono ?_; rintro e w' ⟨rfl, rfl⟩)
  go_cut [8, 9] (fun s8 s9 wx => ∃ x y : Nat, s8 = .pointer (some ⟨x, 0, none⟩) ∧ s9 = .pointer (some ⟨y, 0, none⟩) ∧ OverW w wx r g b r' g' b' ∧ wx.cell? ⟨x, 0, none⟩ = some (.int .i64 0) ∧ wx.cell? ⟨y, 0, none⟩ = some (.int .i64 0) ∧ x < wx.heap.size ∧ y < wx.heap.size)
  case first =>
    go_region
    all_goals
      go_wp2_with fail
      go_meet
      refine ⟨_, _, rfl, rfl, ⟨?_, ?_, ?_, ?_, ?_, ?_, ?_, ?_, ?_, ?_, ?_, ?_, ?_, ?_, ?_, ?_⟩, ?_, ?_, ?_, ?_⟩
      · repeat (first | exact Below.refl _ _ | apply Below.drew | refine Below.alloc ?_ (by simp <;> omega) _)
      all_goals first | go_simp | (simp; done) | (simp; omega)
  case rest =>
    obtain ⟨x, y, rfl, rfl, hW, hx, hy, hxy⟩ := hcut
    obtain ⟨hlx, hly⟩ := hxy
    have hW2 := hW.on ((Below.refl _ _).alloc (Nat.le_refl _) (.cells #[.int .i64 0] 3))
    obtain ⟨o1, o2, o3, o4, o5, o6, o7, o8, o9, o10, o11, o12, o13, o14, o15, o16⟩ := hW2
    go_wp2
    refine bodyPost_ret (v := .tuple #[pixv 0 0 0 0, .nilIface]) (by simp [results, Tryd.results20, go_sem, *]) rfl ⟨rfl, ?_⟩
    repeat (first | exact o1 | refine Below.setCell ?_ (by simp <;> omega) _ | apply below_drewN)
theorem over_any (m : Int) (p q : P4) (w : World) (hm : 0 ≤ m ∧ m < 6) (hp : p.Ok) (hq : q.Ok) :
    Calls Tryd.prog 20 #[.int .i64 m, p.val, q.val] w fun e w' => e = .returned (.tuple #[(P4.over m p q).val, .nilIface]) ∧ Below w.heap.size w w' := by
  by_cases hc : Pix.covers p.a q.a = 0
  · obtain ⟨e1, e2⟩ := covers_zero hp.a hq.a hc
    have e3 : P4.over m p q = P4.zero := by unfold P4.over; rw [if_pos hc]
    rw [e3]
    obtain ⟨r, g, b, a⟩ := p
    obtain ⟨r', g', b', a'⟩ := q
    simp only at e1 e2
    subst e1 e2
    exact over_none_any m r g b r' g' b' w hm
  · have hc1 := Pix.covers_pos hp.a hq.a hc
    have e3 : P4.over m p q = ⟨Pix.color m p.a q.a p.r q.r, Pix.color m p.a q.a p.g q.g, Pix.color m p.a q.a p.b q.b, Pix.rnd (Pix.covers p.a q.a) 255⟩ := by unfold P4.over; rw [if_neg hc]
    rw [e3]
    rcases (show m = 0 ∨ m = 1 ∨ m = 2 ∨ m = 3 ∨ m = 4 ∨ m = 5 by omega) with h | h | h | h | h | h
    · subst h; exact over0_any _ _ _ _ _ _ _ _ w hp.r hp.g hp.b hp.a hq.r hq.g hq.b hq.a hc1
    · subst h; exact over1_any _ _ _ _ _ _ _ _ w hp.r hp.g hp.b hp.a hq.r hq.g hq.b hq.a hc1
    · subst h; exact over2_any _ _ _ _ _ _ _ _ w hp.r hp.g hp.b hp.a hq.r hq.g hq.b hq.a hc1
    · subst h; exact over3_any _ _ _ _ _ _ _ _ w hp.r hp.g hp.b hp.a hq.r hq.g hq.b hq.a hc1
    · subst h; exact over4_any _ _ _ _ _ _ _ _ w hp.r hp.g hp.b hp.a hq.r hq.g hq.b hq.a hc1
    · subst h; exact over5_any _ _ _ _ _ _ _ _ w hp.r hp.g hp.b hp.a hq.r hq.g hq.b hq.a hc1
/-- the laws, of pixels whole -/
theorem P4.over_zero (m : Int) (p : P4) (hp : p.Ok) (h : p.a ≠ 0) : P4.over m p P4.zero = p := by
  obtain ⟨r, g, b, a⟩ := p
  obtain ⟨a0, a1⟩ := hp.a
  simp only at a0 a1 h
  have ha : 1 ≤ a := by omega
  unfold P4.over P4.zero
  simp only
  rw [if_neg (by unfold Pix.covers; omega), Pix.over_none m a r ha a1 hp.r, Pix.over_none m a g ha a1 hp.g, Pix.over_none m a b ha a1 hp.b]
  congr 1
  have : Pix.covers a 0 = a * 255 := by unfold Pix.covers; omega
  rw [this]; exact Pix.rnd_exact _ _ (by omega) ⟨a0, a1⟩
theorem P4.zero_over (m : Int) (p : P4) (hp : p.Ok) (h : p.a ≠ 0) : P4.over m P4.zero p = p := by
  obtain ⟨r, g, b, a⟩ := p
  obtain ⟨a0, a1⟩ := hp.a
  simp only at a0 a1 h
  have ha : 1 ≤ a := by omega
  unfold P4.over P4.zero
  simp only
  rw [if_neg (by unfold Pix.covers; omega), Pix.under_none m a r ha a1 hp.r, Pix.under_none m a g ha a1 hp.g, Pix.under_none m a b ha a1 hp.b]
  congr 1
  have : Pix.covers 0 a = a * 255 := by unfold Pix.covers; omega
  rw [this]; exact Pix.rnd_exact _ _ (by omega) ⟨a0, a1⟩
theorem P4.over_nought (m : Int) (p q : P4) (hp : p.a = 0) (hq : q.a = 0) : P4.over m p q = P4.zero := by
  unfold P4.over; rw [if_pos (by rw [hp, hq]; rfl)]
theorem P4.full_over (p q : P4) (hp : p.Ok) (hq : q.Ok) (h : p.a = 255) : P4.over 0 p q = p := by
  obtain ⟨r, g, b, a⟩ := p
  obtain ⟨a0, a1⟩ := hq.a
  simp only at h
  subst h
  unfold P4.over
  simp only
  rw [if_neg (by unfold Pix.covers; omega), Pix.full_hides _ _ _ hq.a hp.r, Pix.full_hides _ _ _ hq.a hp.g, Pix.full_hides _ _ _ hq.a hp.b]
  congr 1
  have : Pix.covers 255 q.a = 255 * 255 := by unfold Pix.covers; omega
  rw [this]; rfl
theorem P4.over_comm (m : Int) (p q : P4) (hm : m ≠ 0) (h : p.a = q.a) : P4.over m p q = P4.over m q p := by
  unfold P4.over
  rw [h, Pix.color_comm m q.a p.r q.r hm, Pix.color_comm m q.a p.g q.g hm, Pix.color_comm m q.a p.b q.b hm]
theorem P4.over_alpha (m n : Int) (p q : P4) (hp : p.Ok) (hq : q.Ok) : (P4.over m p q).a = (P4.over n q p).a ∧ p.a ≤ (P4.over m p q).a ∧ q.a ≤ (P4.over m p q).a := by
  have hcc := Pix.covers_comm p.a q.a
  by_cases hc : Pix.covers p.a q.a = 0
  · obtain ⟨e1, e2⟩ := covers_zero hp.a hq.a hc
    rw [P4.over_nought m p q e1 e2, P4.over_nought n q p e2 e1, e1, e2]
    exact ⟨rfl, by decide, by decide⟩
  · have h1 : (P4.over m p q).a = Pix.rnd (Pix.covers p.a q.a) 255 := by unfold P4.over; rw [if_neg hc]
    have h2 : (P4.over n q p).a = Pix.rnd (Pix.covers q.a p.a) 255 := by unfold P4.over; rw [if_neg (by rw [← hcc]; exact hc)]
    rw [h1, h2]
    refine ⟨by rw [hcc], Pix.alpha_ge _ _ hp.a hq.a, ?_⟩
    rw [hcc]; exact Pix.alpha_ge _ _ hq.a hp.a
end Go.Proofs.YteacjlalekbhpaaDoor
namespace Go.Proofs.YteacjlalekbhpaaDoor
open Go.RowKit
set_option linter.unusedSimpArgs false
theorem bcell {W w1 : World} (hb : Below W.heap.size W w1) : (∀ b o, b < W.heap.size → w1.cell? ⟨b, o, none⟩ = W.cell? ⟨b, o, none⟩) ∧ (∀ b o, b < W.heap.size → w1.frozen? ⟨b, o, none⟩ = W.frozen? ⟨b, o, none⟩) :=
  ⟨fun b o h => hb.cell (p := ⟨b, o, none⟩) h, fun b o h => hb.frozen (p := ⟨b, o, none⟩) h⟩
theorem over_walk (m r g b a r' g' b' a' : Int) (o : P4) (w : World) (hm : 0 ≤ m ∧ m < 6) (hp : (P4.mk r g b a).Ok) (hq : (P4.mk r' g' b' a').Ok) (ho : P4.over m ⟨r, g, b, a⟩ ⟨r', g', b', a'⟩ = o) :
    Calls Tryd.prog 20 #[.int .i64 m, .agg #[.int .u8 r, .int .u8 g, .int .u8 b, .int .u8 a], .agg #[.int .u8 r', .int .u8 g', .int .u8 b', .int .u8 a']] w fun e w' =>
      e = .returned (.tuple #[.agg #[.int .u8 o.r, .int .u8 o.g, .int .u8 o.b, .int .u8 o.a], .nilIface]) ∧ Below w.heap.size w w' := by
  have := over_any m ⟨r, g, b, a⟩ ⟨r', g', b', a'⟩ w hm hp hq
  rw [ho] at this
  exact this
theorem p4_ok {r g b a : Int} (h : (0 ≤ r ∧ r ≤ 255) ∧ (0 ≤ g ∧ g ≤ 255) ∧ (0 ≤ b ∧ b ≤ 255) ∧ (0 ≤ a ∧ a ≤ 255)) : (P4.mk r g b a).Ok := ⟨h.1, h.2.1, h.2.2.1, h.2.2.2⟩
set_option maxRecDepth 100000 in
theorem half_any (w : World) : Calls Tryd.prog 19 #[] w fun e w' => e = .returned (.bool true) ∧ Ext w w' := by
  have h1 := fun W => over_walk 0 255 255 255 128 0 0 0 255 ⟨128, 128, 128, 255⟩ W (by decide) (p4_ok (by decide)) (p4_ok (by decide)) rfl
  have H1 := Lib.hid h1
  clear h1
  go_enter Tryd.func19, Tryd.ntmps19
  go_wp2_with fail
  refine (H1.out _).mono ?_
  rintro e w1 ⟨rfl, hb⟩
  go_wp2_with fail
  go_ret
  exact ⟨rfl, Ext.alloc hb _⟩
theorem still_mode (m r g b a r' g' b' a' : Int) (w : World) (h : m < 0 ∨ 5 < m) :
    Calls Tryd.prog 5 #[.int .i64 m, .agg #[.int .u8 r, .int .u8 g, .int .u8 b, .int .u8 a], .agg #[.int .u8 r', .int .u8 g', .int .u8 b', .int .u8 a']] w fun e w' => e = .returned (.bool true) ∧ Below w.heap.size w w' := by
  by_cases h1 : m < 0
  · go_enter Tryd.func5, Tryd.ntmps5
    go_wp2_with (go_at_call 19; refine (half_any _).mono ?_; rintro e w' ⟨rfl, hx⟩)
    go_ret
    exact ⟨rfl, (((Below.refl _ _).alloc (Nat.le_refl _) _).alloc (by simp) _).trans (Below.mono hx (by simp; omega))⟩
  · have h2 : 5 < m := by omega
    go_enter Tryd.func5, Tryd.ntmps5
    go_wp2_with (go_at_call 19; refine (half_any _).mono ?_; rintro e w' ⟨rfl, hx⟩)
    go_ret
    exact ⟨rfl, (((Below.refl _ _).alloc (Nat.le_refl _) _).alloc (by simp) _).trans (Below.mono hx (by simp; omega))⟩
/-- four cells that hold a pixel; they may be written -/
def PixAt (w : World) (B : Nat) (r g b a : Int) : Prop :=
  w.cell? ⟨B, 0, none⟩ = some (.int .u8 r) ∧ w.cell? ⟨B, 1, none⟩ = some (.int .u8 g) ∧ w.cell? ⟨B, 2, none⟩ = some (.int .u8 b) ∧ w.cell? ⟨B, 3, none⟩ = some (.int .u8 a)
theorem PixAt.on {w w' : World} {m B : Nat} {r g b a : Int} (h : PixAt w B r g b a) (hb : Below m w w') (hB : B < m) : PixAt w' B r g b a :=
  ⟨(hb.cell hB).trans h.1, (hb.cell hB).trans h.2.1, (hb.cell hB).trans h.2.2.1, (hb.cell hB).trans h.2.2.2⟩
theorem PixAt.new (w : World) (r g b a : Int) (t : TypeId) : PixAt (w.alloc (.cells #[.int .u8 r, .int .u8 g, .int .u8 b, .int .u8 a] t)) w.heap.size r g b a := by
  refine ⟨?_, ?_, ?_, ?_⟩ <;> go_simp
theorem PixAt.old {w : World} {B : Nat} {r g b a : Int} (h : PixAt w B r g b a) (hB : B < w.heap.size) (o : Obj) : PixAt (w.alloc o) B r g b a :=
  h.on ((Below.refl w.heap.size w).alloc (Nat.le_refl _) o) hB
set_option maxRecDepth 100000 in
set_option maxHeartbeats 1000000 in
theorem still_yes (m r g b a r' g' b' a' : Int) (w : World) (hm : 0 ≤ m ∧ m < 6) (hp : (P4.mk r g b a).Ok) (hq0 : (P4.mk r' g' b' a').Ok) (ha : ((a : Int) == 0) = false) :
    Calls Tryd.prog 5 #[.int .i64 m, .agg #[.int .u8 r, .int .u8 g, .int .u8 b, .int .u8 a], .agg #[.int .u8 r', .int .u8 g', .int .u8 b', .int .u8 a']] w fun e w' => e = .returned (.bool true) ∧ Below w.heap.size w w' := by
  have ha' : a ≠ 0 := by rw [beq_eq_false_iff_ne] at ha; exact ha
  have H1 := Lib.hid fun W => over_walk m r g b a 0 0 0 0 ⟨r, g, b, a⟩ W hm hp P4.zero_ok (P4.over_zero m _ hp ha')
  have H2 := Lib.hid fun W => over_walk m 0 0 0 0 r g b a ⟨r, g, b, a⟩ W hm P4.zero_ok hp (P4.zero_over m _ hp ha')
  have hfull : (P4.mk r g b 255).Ok := ⟨hp.r, hp.g, hp.b, show (0 : Int) ≤ 255 by decide, show (255 : Int) ≤ 255 by decide⟩
  have H3 := Lib.hid fun W => over_walk 0 r g b 255 r' g' b' a' ⟨r, g, b, 255⟩ W (by decide) hfull hq0 (P4.full_over _ _ hfull hq0 rfl)
  obtain ⟨hm0, hm1⟩ := hm
  clear ha'
  go_enter Tryd.func5, Tryd.ntmps5
  go_wp2_with fail
  refine (half_any _).mono ?_
  rintro e w0 ⟨rfl, hb0⟩
  have s0 : w.heap.size + 2 ≤ w0.heap.size := by have := Below.size hb0; simpa using this
  have pa0 := ((PixAt.new w r g b a 34).old (by simp <;> omega) (.cells #[.int .u8 r', .int .u8 g', .int .u8 b', .int .u8 a'] 34)).on hb0 (by simp <;> omega)
  have pb0 := (PixAt.new (w.alloc (.cells #[.int .u8 r, .int .u8 g, .int .u8 b, .int .u8 a] 34)) r' g' b' a' 34).on hb0 (by simp <;> omega)
  rw [World.size_alloc] at pb0
  have PA0 := Lib.hid pa0
  have PB0 := Lib.hid pb0
  have K0 : Below w.heap.size w w0 := (((Below.refl _ _).alloc (Nat.le_refl _) _).alloc (by simp) _).trans (Below.mono hb0 (by simp; omega))
  obtain ⟨a0, a1, a2, a3⟩ := pa0
  obtain ⟨b0, b1, b2, b3⟩ := pb0
  clear hb0
  go_wp2_with fail
  refine (H1.out _).mono ?_
  rintro e w1 ⟨rfl, hb1⟩
  clear a0 a1 a2 a3 b0 b1 b2 b3
  have s1 : w0.heap.size ≤ w1.heap.size := hb1.size
  have pa1 := PA0.out.on hb1 (by omega)
  have pb1 := PB0.out.on hb1 (by omega)
  have PA1 := Lib.hid pa1
  have PB1 := Lib.hid pb1
  have K1 : Below w.heap.size w w1 := K0.trans (hb1.mono (by omega))
  obtain ⟨a0, a1, a2, a3⟩ := pa1
  have l1 : w.heap.size < w1.heap.size := by omega
  clear hb1 pb1
  go_wp2_with fail
  refine (H2.out _).mono ?_
  rintro e w2 ⟨rfl, hb2⟩
  clear a0 a1 a2 a3 l1
  have s2 : w1.heap.size + 1 ≤ w2.heap.size := by have := hb2.size; simpa using this
  have hb2' : Below w1.heap.size w1 w2 := ((Below.refl _ _).alloc (Nat.le_refl _) _).trans (hb2.mono (by simp))
  have pa2 := PA1.out.on hb2' (by omega)
  have pb2 := PB1.out.on hb2' (by omega)
  have px2 := (PixAt.new w1 (r) (g) (b) (a) 34).on hb2 (by simp)
  have PA2 := Lib.hid pa2
  have PB2 := Lib.hid pb2
  have K2 : Below w.heap.size w w2 := K1.trans (hb2'.mono (by omega))
  obtain ⟨a0, a1, a2, a3⟩ := pa2
  obtain ⟨b0, b1, b2, b3⟩ := pb2
  obtain ⟨x0, x1, x2, x3⟩ := px2
  have l1 : w.heap.size < w2.heap.size := by omega
  have l2 : w.heap.size + 1 < w2.heap.size := by omega
  have l3 : w1.heap.size < w2.heap.size := by omega
  clear hb2 hb2'
  go_wp2_with fail
  refine (H3.out _).mono ?_
  rintro e w3 ⟨rfl, hb3⟩
  clear a0 a1 a2 a3 b0 b1 b2 b3 x0 x1 x2 x3 l1 l2 l3
  have s3 : w2.heap.size + 3 ≤ w3.heap.size := by have := hb3.size; simpa using this
  have hb3' : Below w2.heap.size w2 w3 := ((((Below.refl _ _).alloc (Nat.le_refl _) _).alloc (by simp) _).alloc (by simp <;> omega) _).trans (hb3.mono (by simp <;> omega))
  have pf3 := (PixAt.new ((w2.alloc (.cells #[.int .u8 r, .int .u8 g, .int .u8 b, .int .u8 a] 34)).alloc (.cells #[.int .u8 r, .int .u8 g, .int .u8 b, .int .u8 a] 34)) r g b 255 34).on hb3 (by simp)
  rw [World.size_alloc, World.size_alloc] at pf3
  have pa3 := PA2.out.on hb3' (by omega)
  have pb3 := PB2.out.on hb3' (by omega)
  have PA3 := Lib.hid pa3
  have PB3 := Lib.hid pb3
  have K3 : Below w.heap.size w w3 := K2.trans (hb3'.mono (by omega))
  obtain ⟨a0, a1, a2, a3⟩ := pa3
  obtain ⟨b0, b1, b2, b3⟩ := pb3
  obtain ⟨f0, f1, f2, f3⟩ := pf3
  have l1 : w.heap.size < w3.heap.size := by omega
  have l2 : w.heap.size + 1 < w3.heap.size := by omega
  have l3 : w2.heap.size + 1 + 1 < w3.heap.size := by omega
  clear hb3 hb3'
  by_cases hm : m = 0
  · have hq : (m == 0) = true := by rw [beq_iff_eq]; exact hm
    clear hm
    go_wp2_with fail
    go_ret
    exact ⟨rfl, K3.alloc K3.size _⟩
  have hq : (m == 0) = false := by rw [beq_eq_false_iff_ne]; exact hm
  by_cases hab : a = a'
  · have hqa : ((a : Int) != a') = false := by rw [bne_eq_false_iff_eq]; exact hab
    have H4 := Lib.hid fun W => over_walk m r g b a r' g' b' a' (P4.over m ⟨r, g, b, a⟩ ⟨r', g', b', a'⟩) W ⟨hm0, hm1⟩ hp hq0 rfl
    have H5 := Lib.hid fun W => over_walk m r' g' b' a' r g b a (P4.over m ⟨r, g, b, a⟩ ⟨r', g', b', a'⟩) W ⟨hm0, hm1⟩ hq0 hp (P4.over_comm m _ _ hm hab.symm)
    generalize P4.over m ⟨r, g, b, a⟩ ⟨r', g', b', a'⟩ = o at *
    obtain ⟨o1, o2, o3, o4⟩ := o
    simp only at H4 H5
    clear hm hab
    go_wp2_with fail
    refine (H4.out _).mono ?_
    rintro e w4 ⟨rfl, hb4⟩
    clear a0 a1 a2 a3 b0 b1 b2 b3 f0 f1 f2 f3 l1 l2 l3
    have s4 : w3.heap.size + 1 ≤ w4.heap.size := by have := hb4.size; simpa using this
    have hb4' : Below w3.heap.size w3 w4 := ((Below.refl _ _).alloc (Nat.le_refl _) _).trans (hb4.mono (by simp))
    have pa4 := PA3.out.on hb4' (by omega)
    have pb4 := PB3.out.on hb4' (by omega)
    have K4 : Below w.heap.size w w4 := K3.trans (hb4'.mono (by omega))
    obtain ⟨a0, a1, a2, a3⟩ := pa4
    obtain ⟨b0, b1, b2, b3⟩ := pb4
    have l1 : w.heap.size < w4.heap.size := by omega
    have l2 : w.heap.size + 1 < w4.heap.size := by omega
    clear hb4 hb4'
    go_wp2_with fail
    refine (H5.out _).mono ?_
    rintro e w5 ⟨rfl, hb5⟩
    clear a0 a1 a2 a3 b0 b1 b2 b3 l1 l2
    have s5 : w4.heap.size + 1 ≤ w5.heap.size := by have := hb5.size; simpa using this
    have pp5 := (PixAt.new w4 o1 o2 o3 o4 34).on hb5 (by simp)
    have K5 : Below w.heap.size w w5 := (K4.alloc K4.size _).trans (hb5.mono (by simp; omega))
    obtain ⟨a0, a1, a2, a3⟩ := pp5
    have l1 : w4.heap.size < w5.heap.size := by omega
    clear hb5
    go_wp2_with fail
    go_ret
    exact ⟨rfl, K5.alloc K5.size _⟩
  · have hqa : ((a : Int) != a') = true := by rw [bne_iff_ne]; exact hab
    clear hm hab
    go_wp2_with fail
    go_ret
    exact ⟨rfl, K3.alloc K3.size _⟩
set_option maxRecDepth 100000 in
set_option maxHeartbeats 1000000 in
theorem still_nil (m r g b r' g' b' a' : Int) (w : World) (hm : 0 ≤ m ∧ m < 6) (hp : (P4.mk r g b 0).Ok) (hq0 : (P4.mk r' g' b' a').Ok) :
    Calls Tryd.prog 5 #[.int .i64 m, .agg #[.int .u8 r, .int .u8 g, .int .u8 b, .int .u8 0], .agg #[.int .u8 r', .int .u8 g', .int .u8 b', .int .u8 a']] w fun e w' => e = .returned (.bool true) ∧ Below w.heap.size w w' := by
  have H1 := Lib.hid fun W => over_walk m r g b 0 0 0 0 0 ⟨0, 0, 0, 0⟩ W hm hp P4.zero_ok (P4.over_nought m _ _ rfl rfl)
  have H2 := Lib.hid fun W => over_walk m 0 0 0 0 r g b 0 ⟨0, 0, 0, 0⟩ W hm P4.zero_ok hp (P4.over_nought m _ _ rfl rfl)
  have hfull : (P4.mk r g b 255).Ok := ⟨hp.r, hp.g, hp.b, show (0 : Int) ≤ 255 by decide, show (255 : Int) ≤ 255 by decide⟩
  have H3 := Lib.hid fun W => over_walk 0 r g b 255 r' g' b' a' ⟨r, g, b, 255⟩ W (by decide) hfull hq0 (P4.full_over _ _ hfull hq0 rfl)
  obtain ⟨hm0, hm1⟩ := hm
  go_enter Tryd.func5, Tryd.ntmps5
  go_wp2_with fail
  refine (half_any _).mono ?_
  rintro e w0 ⟨rfl, hb0⟩
  have s0 : w.heap.size + 2 ≤ w0.heap.size := by have := Below.size hb0; simpa using this
  have pa0 := ((PixAt.new w r g b 0 34).old (by simp <;> omega) (.cells #[.int .u8 r', .int .u8 g', .int .u8 b', .int .u8 a'] 34)).on hb0 (by simp <;> omega)
  have pb0 := (PixAt.new (w.alloc (.cells #[.int .u8 r, .int .u8 g, .int .u8 b, .int .u8 0] 34)) r' g' b' a' 34).on hb0 (by simp <;> omega)
  rw [World.size_alloc] at pb0
  have PA0 := Lib.hid pa0
  have PB0 := Lib.hid pb0
  have K0 : Below w.heap.size w w0 := (((Below.refl _ _).alloc (Nat.le_refl _) _).alloc (by simp) _).trans (Below.mono hb0 (by simp; omega))
  obtain ⟨a0, a1, a2, a3⟩ := pa0
  obtain ⟨b0, b1, b2, b3⟩ := pb0
  clear hb0
  go_wp2_with fail
  refine (H1.out _).mono ?_
  rintro e w1 ⟨rfl, hb1⟩
  clear a0 a1 a2 a3 b0 b1 b2 b3
  have s1 : w0.heap.size ≤ w1.heap.size := hb1.size
  have pa1 := PA0.out.on hb1 (by omega)
  have pb1 := PB0.out.on hb1 (by omega)
  have PA1 := Lib.hid pa1
  have PB1 := Lib.hid pb1
  have K1 : Below w.heap.size w w1 := K0.trans (hb1.mono (by omega))
  obtain ⟨a0, a1, a2, a3⟩ := pa1
  have l1 : w.heap.size < w1.heap.size := by omega
  clear hb1 pb1
  go_wp2_with fail
  refine (H2.out _).mono ?_
  rintro e w2 ⟨rfl, hb2⟩
  clear a0 a1 a2 a3 l1
  have s2 : w1.heap.size + 1 ≤ w2.heap.size := by have := hb2.size; simpa using this
  have hb2' : Below w1.heap.size w1 w2 := ((Below.refl _ _).alloc (Nat.le_refl _) _).trans (hb2.mono (by simp))
  have pa2 := PA1.out.on hb2' (by omega)
  have pb2 := PB1.out.on hb2' (by omega)
  have px2 := (PixAt.new w1 0 0 0 0 34).on hb2 (by simp)
  have PA2 := Lib.hid pa2
  have PB2 := Lib.hid pb2
  have K2 : Below w.heap.size w w2 := K1.trans (hb2'.mono (by omega))
  obtain ⟨a0, a1, a2, a3⟩ := pa2
  obtain ⟨b0, b1, b2, b3⟩ := pb2
  obtain ⟨x0, x1, x2, x3⟩ := px2
  have l1 : w.heap.size < w2.heap.size := by omega
  have l2 : w.heap.size + 1 < w2.heap.size := by omega
  have l3 : w1.heap.size < w2.heap.size := by omega
  clear hb2 hb2'
  go_wp2_with fail
  refine (H3.out _).mono ?_
  rintro e w3 ⟨rfl, hb3⟩
  clear a0 a1 a2 a3 b0 b1 b2 b3 x0 x1 x2 x3 l1 l2 l3
  have s3 : w2.heap.size + 3 ≤ w3.heap.size := by have := hb3.size; simpa using this
  have hb3' : Below w2.heap.size w2 w3 := ((((Below.refl _ _).alloc (Nat.le_refl _) _).alloc (by simp) _).alloc (by simp <;> omega) _).trans (hb3.mono (by simp <;> omega))
  have pf3 := (PixAt.new ((w2.alloc (.cells #[.int .u8 0, .int .u8 0, .int .u8 0, .int .u8 0] 34)).alloc (.cells #[.int .u8 0, .int .u8 0, .int .u8 0, .int .u8 0] 34)) r g b 255 34).on hb3 (by simp)
  rw [World.size_alloc, World.size_alloc] at pf3
  have pa3 := PA2.out.on hb3' (by omega)
  have pb3 := PB2.out.on hb3' (by omega)
  have PA3 := Lib.hid pa3
  have PB3 := Lib.hid pb3
  have K3 : Below w.heap.size w w3 := K2.trans (hb3'.mono (by omega))
  obtain ⟨a0, a1, a2, a3⟩ := pa3
  obtain ⟨b0, b1, b2, b3⟩ := pb3
  obtain ⟨f0, f1, f2, f3⟩ := pf3
  have l1 : w.heap.size < w3.heap.size := by omega
  have l2 : w.heap.size + 1 < w3.heap.size := by omega
  have l3 : w2.heap.size + 1 + 1 < w3.heap.size := by omega
  clear hb3 hb3'
  by_cases hm : m = 0
  · have hq : (m == 0) = true := by rw [beq_iff_eq]; exact hm
    clear hm
    go_wp2_with fail
    go_ret
    exact ⟨rfl, K3.alloc K3.size _⟩
  have hq : (m == 0) = false := by rw [beq_eq_false_iff_ne]; exact hm
  by_cases hab : 0 = a'
  · have hqa : ((0 : Int) != a') = false := by rw [bne_eq_false_iff_eq]; exact hab
    have H4 := Lib.hid fun W => over_walk m r g b 0 r' g' b' a' (P4.over m ⟨r, g, b, 0⟩ ⟨r', g', b', a'⟩) W ⟨hm0, hm1⟩ hp hq0 rfl
    have H5 := Lib.hid fun W => over_walk m r' g' b' a' r g b 0 (P4.over m ⟨r, g, b, 0⟩ ⟨r', g', b', a'⟩) W ⟨hm0, hm1⟩ hq0 hp (P4.over_comm m _ _ hm hab.symm)
    generalize P4.over m ⟨r, g, b, 0⟩ ⟨r', g', b', a'⟩ = o at *
    obtain ⟨o1, o2, o3, o4⟩ := o
    simp only at H4 H5
    clear hm hab
    go_wp2_with fail
    refine (H4.out _).mono ?_
    rintro e w4 ⟨rfl, hb4⟩
    clear a0 a1 a2 a3 b0 b1 b2 b3 f0 f1 f2 f3 l1 l2 l3
    have s4 : w3.heap.size + 1 ≤ w4.heap.size := by have := hb4.size; simpa using this
    have hb4' : Below w3.heap.size w3 w4 := ((Below.refl _ _).alloc (Nat.le_refl _) _).trans (hb4.mono (by simp))
    have pa4 := PA3.out.on hb4' (by omega)
    have pb4 := PB3.out.on hb4' (by omega)
    have K4 : Below w.heap.size w w4 := K3.trans (hb4'.mono (by omega))
    obtain ⟨a0, a1, a2, a3⟩ := pa4
    obtain ⟨b0, b1, b2, b3⟩ := pb4
    have l1 : w.heap.size < w4.heap.size := by omega
    have l2 : w.heap.size + 1 < w4.heap.size := by omega
    clear hb4 hb4'
    go_wp2_with fail
    refine (H5.out _).mono ?_
    rintro e w5 ⟨rfl, hb5⟩
    clear a0 a1 a2 a3 b0 b1 b2 b3 l1 l2
    have s5 : w4.heap.size + 1 ≤ w5.heap.size := by have := hb5.size; simpa using this
    have pp5 := (PixAt.new w4 o1 o2 o3 o4 34).on hb5 (by simp)
    have K5 : Below w.heap.size w w5 := (K4.alloc K4.size _).trans (hb5.mono (by simp; omega))
    obtain ⟨a0, a1, a2, a3⟩ := pp5
    have l1 : w4.heap.size < w5.heap.size := by omega
    clear hb5
    go_wp2_with fail
    go_ret
    exact ⟨rfl, K5.alloc K5.size _⟩
  · have hqa : ((0 : Int) != a') = true := by rw [bne_iff_ne]; exact hab
    clear hm hab
    go_wp2_with fail
    go_ret
    exact ⟨rfl, K3.alloc K3.size _⟩
theorem pixelStill_any (m : Int) (r g b a r' g' b' a' : Int) (w : World) (hp : (P4.mk r g b a).Ok) (hq : (P4.mk r' g' b' a').Ok) :
    Calls Tryd.prog 5 #[.int .i64 m, .agg #[.int .u8 r, .int .u8 g, .int .u8 b, .int .u8 a], .agg #[.int .u8 r', .int .u8 g', .int .u8 b', .int .u8 a']] w fun e w' => e = .returned (.bool true) ∧ Below w.heap.size w w' := by
  by_cases hm : m < 0 ∨ 5 < m
  · exact still_mode m r g b a r' g' b' a' w hm
  by_cases ha : a = 0
  · subst ha; exact still_nil m r g b r' g' b' a' w (by omega) hp hq
  · exact still_yes m r g b a r' g' b' a' w (by omega) hp hq (by rw [beq_eq_false_iff_ne]; exact ha)
theorem covers_mode (m n r g b a r' g' b' a' : Int) (w : World) (h : m < 0 ∨ 5 < m ∨ n < 0 ∨ 5 < n) :
    Calls Tryd.prog 6 #[.int .i64 m, .int .i64 n, .agg #[.int .u8 r, .int .u8 g, .int .u8 b, .int .u8 a], .agg #[.int .u8 r', .int .u8 g', .int .u8 b', .int .u8 a']] w fun e w' => e = .returned (.bool true) ∧ Below w.heap.size w w' := by
  by_cases h1 : m < 0
  · go_enter Tryd.func6, Tryd.ntmps6
    go_wp2_with (go_at_call 19; refine (half_any _).mono ?_; rintro e w' ⟨rfl, hx⟩)
    go_ret
    exact ⟨rfl, (((Below.refl _ _).alloc (Nat.le_refl _) _).alloc (by simp) _).trans (Below.mono hx (by simp; omega))⟩
  by_cases h2 : 5 < m
  · go_enter Tryd.func6, Tryd.ntmps6
    go_wp2_with (go_at_call 19; refine (half_any _).mono ?_; rintro e w' ⟨rfl, hx⟩)
    go_ret
    exact ⟨rfl, (((Below.refl _ _).alloc (Nat.le_refl _) _).alloc (by simp) _).trans (Below.mono hx (by simp; omega))⟩
  by_cases h3 : n < 0
  · go_enter Tryd.func6, Tryd.ntmps6
    go_wp2_with (go_at_call 19; refine (half_any _).mono ?_; rintro e w' ⟨rfl, hx⟩)
    go_ret
    exact ⟨rfl, (((Below.refl _ _).alloc (Nat.le_refl _) _).alloc (by simp) _).trans (Below.mono hx (by simp; omega))⟩
  have h4 : 5 < n := by omega
  go_enter Tryd.func6, Tryd.ntmps6
  go_wp2_with (go_at_call 19; refine (half_any _).mono ?_; rintro e w' ⟨rfl, hx⟩)
  go_ret
  exact ⟨rfl, (((Below.refl _ _).alloc (Nat.le_refl _) _).alloc (by simp) _).trans (Below.mono hx (by simp; omega))⟩
set_option maxRecDepth 100000 in
set_option maxHeartbeats 1000000 in
theorem covers_in (m n r g b a r' g' b' a' : Int) (w : World) (hm : 0 ≤ m ∧ m < 6) (hn : 0 ≤ n ∧ n < 6) (hp : (P4.mk r g b a).Ok) (hq : (P4.mk r' g' b' a').Ok) :
    Calls Tryd.prog 6 #[.int .i64 m, .int .i64 n, .agg #[.int .u8 r, .int .u8 g, .int .u8 b, .int .u8 a], .agg #[.int .u8 r', .int .u8 g', .int .u8 b', .int .u8 a']] w fun e w' => e = .returned (.bool true) ∧ Below w.heap.size w w' := by
  obtain ⟨t1, t2, t3⟩ := P4.over_alpha m n _ _ hp hq
  have H4 := Lib.hid fun W => over_walk m r g b a r' g' b' a' (P4.over m ⟨r, g, b, a⟩ ⟨r', g', b', a'⟩) W hm hp hq rfl
  have H5 := Lib.hid fun W => over_walk n r' g' b' a' r g b a (P4.over n ⟨r', g', b', a'⟩ ⟨r, g, b, a⟩) W hn hq hp rfl
  generalize P4.over m ⟨r, g, b, a⟩ ⟨r', g', b', a'⟩ = o at *
  generalize P4.over n ⟨r', g', b', a'⟩ ⟨r, g, b, a⟩ = u at *
  obtain ⟨o1, o2, o3, o4⟩ := o
  obtain ⟨u1, u2, u3, u4⟩ := u
  simp only at H4 H5 t1 t2 t3
  have hqa : ((o4 : Int) == u4) = true := by rw [beq_iff_eq]; exact t1
  clear t1
  obtain ⟨hm0, hm1⟩ := hm
  obtain ⟨hn0, hn1⟩ := hn
  go_enter Tryd.func6, Tryd.ntmps6
  go_wp2_with fail
  refine (half_any _).mono ?_
  rintro e w0 ⟨rfl, hb0⟩
  have s0 : w.heap.size + 2 ≤ w0.heap.size := by have := Below.size hb0; simpa using this
  have pa0 := ((PixAt.new w r g b a 34).old (by simp <;> omega) (.cells #[.int .u8 r', .int .u8 g', .int .u8 b', .int .u8 a'] 34)).on hb0 (by simp <;> omega)
  have pb0 := (PixAt.new (w.alloc (.cells #[.int .u8 r, .int .u8 g, .int .u8 b, .int .u8 a] 34)) r' g' b' a' 34).on hb0 (by simp <;> omega)
  rw [World.size_alloc] at pb0
  have PA0 := Lib.hid pa0
  have PB0 := Lib.hid pb0
  have K0 : Below w.heap.size w w0 := (((Below.refl _ _).alloc (Nat.le_refl _) _).alloc (by simp) _).trans (Below.mono hb0 (by simp; omega))
  obtain ⟨a0, a1, a2, a3⟩ := pa0
  obtain ⟨b0, b1, b2, b3⟩ := pb0
  clear hb0
  go_wp2_with fail
  refine (H4.out _).mono ?_
  rintro e w1 ⟨rfl, hb1⟩
  clear a0 a1 a2 a3 b0 b1 b2 b3
  have s1 : w0.heap.size ≤ w1.heap.size := hb1.size
  have pa1 := PA0.out.on hb1 (by omega)
  have pb1 := PB0.out.on hb1 (by omega)
  have PA1 := Lib.hid pa1
  have PB1 := Lib.hid pb1
  have K1 : Below w.heap.size w w1 := K0.trans (hb1.mono (by omega))
  obtain ⟨a0, a1, a2, a3⟩ := pa1
  obtain ⟨b0, b1, b2, b3⟩ := pb1
  have l1 : w.heap.size < w1.heap.size := by omega
  have l2 : w.heap.size + 1 < w1.heap.size := by omega
  clear hb1
  go_wp2_with fail
  refine (H5.out _).mono ?_
  rintro e w2 ⟨rfl, hb2⟩
  clear a0 a1 a2 a3 b0 b1 b2 b3 l1 l2
  have s2 : w1.heap.size + 1 ≤ w2.heap.size := by have := hb2.size; simpa using this
  have hb2' : Below w1.heap.size w1 w2 := ((Below.refl _ _).alloc (Nat.le_refl _) _).trans (hb2.mono (by simp))
  have pa2 := PA1.out.on hb2' (by omega)
  have pb2 := PB1.out.on hb2' (by omega)
  have px2 := (PixAt.new w1 o1 o2 o3 o4 34).on hb2 (by simp)
  have K2 : Below w.heap.size w w2 := K1.trans (hb2'.mono (by omega))
  obtain ⟨a0, a1, a2, a3⟩ := pa2
  obtain ⟨b0, b1, b2, b3⟩ := pb2
  obtain ⟨x0, x1, x2, x3⟩ := px2
  have l1 : w.heap.size < w2.heap.size := by omega
  have l2 : w.heap.size + 1 < w2.heap.size := by omega
  have l3 : w1.heap.size < w2.heap.size := by omega
  clear hb2 hb2'
  go_wp2_with fail
  go_ret
  exact ⟨rfl, K2.alloc K2.size _⟩
theorem pixelCovers_any (m n : Int) (r g b a r' g' b' a' : Int) (w : World) (hp : (P4.mk r g b a).Ok) (hq : (P4.mk r' g' b' a').Ok) :
    Calls Tryd.prog 6 #[.int .i64 m, .int .i64 n, .agg #[.int .u8 r, .int .u8 g, .int .u8 b, .int .u8 a], .agg #[.int .u8 r', .int .u8 g', .int .u8 b', .int .u8 a']] w fun e w' => e = .returned (.bool true) ∧ Below w.heap.size w w' := by
  by_cases hm : m < 0 ∨ 5 < m ∨ n < 0 ∨ 5 < n
  · exact covers_mode m n r g b a r' g' b' a' w hm
  · exact covers_in m n r g b a r' g' b' a' w (by omega) (by omega) hp hq
end Go.Proofs.YteacjlalekbhpaaDoor
namespace Go.Proofs.YteacjlalekbhpaaDoor
open Go.RowKit
set_option linter.unusedSimpArgs false
set_option maxRecDepth 100000
theorem isMode_any (m : Int) (w : World) : Calls Tryd.prog 21 #[.int .i64 m] w fun e w' => e = .returned (.bool (decide (0 ≤ m ∧ m < 6))) ∧ w = w' := by
  by_cases h : 0 ≤ m
  · go_enter Tryd.func21, Tryd.ntmps21
    go_wp2
    go_ret
    exact ⟨ret_bool (by rw [Bool.eq_iff_iff]; simp; omega), rfl⟩
  · have h' : decide (0 ≤ m) = false := decide_eq_false h
    go_enter Tryd.func21, Tryd.ntmps21
    go_wp2
    go_ret
    exact ⟨ret_bool (by first | rfl | (symm; rw [decide_eq_false_iff_not]; omega)), rfl⟩
theorem rounded_any (n d : Int) (w : World) (h0 : 0 ≤ n) (h1 : n ≤ 1000000000000) (d0 : 1 ≤ d) (d1 : d ≤ 1000000000000) :
    Calls Tryd.prog 42 #[.int .i64 n, .int .i64 d] w fun e w' => e = .returned (.int .i64 ((2 * n + d) / (2 * d))) ∧ w = w' := by
  have e1 : 0 ≤ n / d * d := Int.mul_nonneg (Int.ediv_nonneg h0 (by omega)) (by omega)
  have e2 : n / d * d ≤ n := Int.ediv_mul_le n (by omega)
  have e3 : n < n / d * d + d := by have := Int.lt_ediv_add_one_mul_self n (show 0 < d by omega); rw [Int.add_mul, Int.one_mul] at this; exact this
  have e4 : 0 ≤ n / d := Int.ediv_nonneg h0 (by omega)
  have e5 : n / d ≤ n := Int.ediv_le_self _ h0
  have lo : ¬ d ≤ 2 * (n - n / d * d) → (2 * n + d) / (2 * d) = n / d := by
    intro h
    have q1 : (2 * n + d) / (2 * d) ≤ n / d := by
      have : (2 * n + d) / (2 * d) < n / d + 1 := Int.ediv_lt_of_lt_mul (by omega) (by rw [Int.add_mul, show n / d * (2 * d) = 2 * (n / d * d) by rw [← Int.mul_assoc, Int.mul_comm (n / d) 2, Int.mul_assoc]]; omega)
      omega
    have q2 : n / d ≤ (2 * n + d) / (2 * d) := (Int.le_ediv_iff_mul_le (by omega)).2 (by rw [show n / d * (2 * d) = 2 * (n / d * d) by rw [← Int.mul_assoc, Int.mul_comm (n / d) 2, Int.mul_assoc]]; omega)
    omega
  have hi : d ≤ 2 * (n - n / d * d) → (2 * n + d) / (2 * d) = n / d + 1 := by
    intro h
    have q1 : (2 * n + d) / (2 * d) ≤ n / d + 1 := by
      have : (2 * n + d) / (2 * d) < n / d + 1 + 1 := Int.ediv_lt_of_lt_mul (by omega) (by rw [Int.add_mul, Int.add_mul, show n / d * (2 * d) = 2 * (n / d * d) by rw [← Int.mul_assoc, Int.mul_comm (n / d) 2, Int.mul_assoc]]; omega)
      omega
    have q2 : n / d + 1 ≤ (2 * n + d) / (2 * d) := (Int.le_ediv_iff_mul_le (by omega)).2 (by rw [Int.add_mul, show n / d * (2 * d) = 2 * (n / d * d) by rw [← Int.mul_assoc, Int.mul_comm (n / d) 2, Int.mul_assoc]]; omega)
    omega
  have LO := Lib.hid lo
  have HI := Lib.hid hi
  clear lo hi
  by_cases h : d ≤ 2 * (n - n / d * d)
  · have HH := Lib.hid (HI.out h)
    go_enter Tryd.func42, Tryd.ntmps42
    go_wp2
    go_ret
    exact ⟨ret_int HH.out.symm, rfl⟩
  · have HH := Lib.hid (LO.out h)
    go_enter Tryd.func42, Tryd.ntmps42
    go_wp2
    go_ret
    exact ⟨ret_int HH.out.symm, rfl⟩
theorem refBlend_any (m s d : Int) (w : World) (hm : 0 ≤ m ∧ m < 6) (hs : Pix.Byte s) (hd : Pix.Byte d) : Calls Tryd.prog 41 #[.int .i64 m, .int .i64 s, .int .i64 d] w fun e w' => e = .returned (.int .i64 (Pix.blend m s d)) ∧ w = w' := by
  obtain ⟨s0, s1⟩ := hs
  obtain ⟨d0, d1⟩ := hd
  have h := Pix.mul_bd s0 s1 d0 d1
  rcases (show m = 0 ∨ m = 1 ∨ m = 2 ∨ m = 3 ∨ m = 4 ∨ m = 5 by omega) with q | q | q | q | q | q <;> subst q <;> clear hm
  all_goals
    go_enter Tryd.func41, Tryd.ntmps41
    go_wp2
  all_goals (go_ret; exact ⟨ret_int (by simp [Pix.blend]; try omega), rfl⟩)
end Go.Proofs.YteacjlalekbhpaaDoor
namespace Go.Proofs.YteacjlalekbhpaaDoor
open Go.RowKit Go.Extern.Stop Go.Stop Go.Extern
set_option linter.unusedSimpArgs false
set_option maxRecDepth 100000
@[irreducible] noncomputable def GN : Nat := Tryd.prog.globals.size
noncomputable abbrev hdl (t : Nat) : Value := .pointer (some ⟨GN, t, none⟩)
theorem typeOfE (v : Value) (w : World) : (Extern.ReflectliteType.typeOf #[.iface 127 v]).run Tryd.prog w = .ok (.iface 107 (.agg #[hdl 127])) w := by kernel_rfl
theorem compE (w : World) : ((Extern.ReflectliteType.method fun t => do Extern.Rtype.noPackHeld "Comparable" t; pure (.bool (← typeInfo t).comparable)) #[.agg #[hdl 127]]).run Tryd.prog w = .ok (.bool true) w := by kernel_rfl
theorem call_typeOfE (v : Value) (w : World) : (callFunc 64 #[.iface 127 v]).run Tryd.prog w = .ok (.value (.iface 107 (.agg #[hdl 127]))) w := by
  rw [@run_callFunc_extern Tryd.prog 64 _ Extern.ReflectliteType.typeOf Tryd.func64 (by kernel_rfl) (by kernel_rfl) (by kernel_rfl) (by kernel_rfl), typeOfE]; rfl
theorem call_compE (w : World) : (callFunc 117 #[.agg #[hdl 127]]).run Tryd.prog w = .ok (.value (.bool true)) w := by
  rw [@run_callFunc_extern Tryd.prog 117 _ (Extern.ReflectliteType.method fun t => do Extern.Rtype.noPackHeld "Comparable" t; pure (.bool (← typeInfo t).comparable)) Tryd.func117 (by kernel_rfl) (by kernel_rfl) (by kernel_rfl) (by kernel_rfl), compE]; rfl
theorem isMethodComparable (n : Nat) (v : Value) (w : World) : (Go.method (n + 1) 107 v "Comparable").run Tryd.prog w = .ok (117, v) w := by kernel_rfl
theorem isComp : (Tryd.prog.info? 127).map (·.comparable) = some true := by kernel_rfl
theorem isSize : (Tryd.prog.info? 129).map (·.size) = some 1 := by kernel_rfl
theorem noIsE (v : Value) (xT : TypeId) (w : World) : (Instr.typeAssert (.iface 127 v) xT 118 true).run Tryd.prog w = .ok (.tuple #[.nilIface, .bool false]) w := run_typeAssert_lacksB Tryd.underlying118 (by kernel_rfl) (by kernel_rfl) v xT w
theorem noUnwrapE (v : Value) (xT : TypeId) (w : World) : (Instr.typeAssert (.iface 127 v) xT 114 true).run Tryd.prog w = .ok (.tuple #[.nilIface, .bool false]) w := run_typeAssert_lacksB Tryd.underlying114 (by kernel_rfl) (by kernel_rfl) v xT w
theorem noUnwrapsE (v : Value) (xT : TypeId) (w : World) : (Instr.typeAssert (.iface 127 v) xT 116 true).run Tryd.prog w = .ok (.tuple #[.nilIface, .bool false]) w := run_typeAssert_lacksB Tryd.underlying116 (by kernel_rfl) (by kernel_rfl) v xT w
theorem noIsF (v : Value) (xT : TypeId) (w : World) : (Instr.typeAssert (.iface 76 v) xT 118 true).run Tryd.prog w = .ok (.tuple #[.nilIface, .bool false]) w := run_typeAssert_lacksB Tryd.underlying118 (by kernel_rfl) (by kernel_rfl) v xT w
theorem hasUnwrapF (v : Value) (xT : TypeId) (w : World) : (Instr.typeAssert (.iface 76 v) xT 114 true).run Tryd.prog w = .ok (.tuple #[.iface 76 v, .bool true]) w := run_typeAssert_hasB Tryd.underlying114 (by kernel_rfl) v xT w
theorem methodUnwrap (n : Nat) (v : Value) (w : World) : (Go.method (n + 1) 76 v "Unwrap").run Tryd.prog w = .ok (108, v) w := by kernel_rfl
theorem is_same (a : Addr) (w : World) :
    Calls Tryd.prog 50 #[.iface 127 (.pointer (some a)), .iface 127 (.pointer (some a))] w fun e w' => e = .returned (.bool true) ∧ w = w' := by
  obtain ⟨i, hi, hcmp⟩ := Option.map_eq_some_iff.1 isComp
  obtain ⟨j, hj, hjs⟩ := Option.map_eq_some_iff.1 isSize
  have h8 := call_typeOfE
  have h32 := call_compE
  have mR := isMethodComparable
  have heq := run_eql_iface_ptr_same (P := Tryd.prog) w a Tryd.underlying25 Tryd.underlying127 hi hcmp hj
  go_enter Tryd.func50, Tryd.ntmps50
  go_wp2
  refine wp_loop_rounds 1 ?_
  rw [rounds_succ]
  go_wp2
  go_ret
  exact ⟨rfl, rfl⟩
theorem is_other (a b : Addr) (ca cb : Array Value) (ta tb : TypeId) (w : World) (hne : a ≠ b) (ha : w.heap[a.block]? = some (.cells ca ta (0, 0))) (hb : w.heap[b.block]? = some (.cells cb tb (0, 0))) :
    Calls Tryd.prog 50 #[.iface 127 (.pointer (some a)), .iface 127 (.pointer (some b))] w fun e w' => e = .returned (.bool false) ∧ w = w' := by
  obtain ⟨i, hi, hcmp⟩ := Option.map_eq_some_iff.1 isComp
  obtain ⟨j, hj, hjs⟩ := Option.map_eq_some_iff.1 isSize
  have h8 := call_typeOfE
  have h32 := call_compE
  have mR := isMethodComparable
  have nE := noIsE
  have uE := noUnwrapE
  have vE := noUnwrapsE
  have heq := run_eql_iface_ptr_other (P := Tryd.prog) w Tryd.underlying25 Tryd.underlying127 hi hcmp hj (by rw [hjs]; decide) hne ha hb
  go_enter Tryd.func50, Tryd.ntmps50
  go_wp2
  refine wp_loop_rounds 1 ?_
  rw [rounds_succ]
  go_wp2
  go_ret
  exact ⟨rfl, rfl⟩
theorem is_fault_same (F : Nat) (b : Addr) (w : World) (h1 : w.cell? ⟨F, 1, none⟩ = some (.iface 127 (.pointer (some b)))) :
    Calls Tryd.prog 50 #[.iface 76 (.pointer (some ⟨F, 0, none⟩)), .iface 127 (.pointer (some b))] w fun e w' => e = .returned (.bool true) ∧ w = w' := by
  obtain ⟨i, hi, hcmp⟩ := Option.map_eq_some_iff.1 isComp
  obtain ⟨j, hj, hjs⟩ := Option.map_eq_some_iff.1 isSize
  have h8 := call_typeOfE
  have h32 := call_compE
  have mR := isMethodComparable
  have nE := noIsE
  have uE := noUnwrapE
  have vE := noUnwrapsE
  have nW := noIsF
  have uW := hasUnwrapF
  have mU := methodUnwrap
  have heq := run_eql_iface_ptr_same (P := Tryd.prog) w b Tryd.underlying25 Tryd.underlying127 hi hcmp hj
  have hty := run_eql_iface_types (P := Tryd.prog) 76 127 (.pointer (some ⟨F, 0, none⟩)) (.pointer (some b)) Tryd.underlying25 (by decide) w
  go_enter Tryd.func50, Tryd.ntmps50
  go_wp2
  refine wp_loop_rounds 2 ?_
  rw [rounds_succ]
  go_wp2
  rw [rounds_succ]
  go_wp2
  go_ret
  exact ⟨rfl, rfl⟩
theorem is_fault_other (F : Nat) (b a : Addr) (ca cb : Array Value) (ta tb : TypeId) (w : World) (h1 : w.cell? ⟨F, 1, none⟩ = some (.iface 127 (.pointer (some a)))) (hne : a ≠ b) (ha : w.heap[a.block]? = some (.cells ca ta (0, 0))) (hb : w.heap[b.block]? = some (.cells cb tb (0, 0))) :
    Calls Tryd.prog 50 #[.iface 76 (.pointer (some ⟨F, 0, none⟩)), .iface 127 (.pointer (some b))] w fun e w' => e = .returned (.bool false) ∧ w = w' := by
  obtain ⟨i, hi, hcmp⟩ := Option.map_eq_some_iff.1 isComp
  obtain ⟨j, hj, hjs⟩ := Option.map_eq_some_iff.1 isSize
  have h8 := call_typeOfE
  have h32 := call_compE
  have mR := isMethodComparable
  have nE := noIsE
  have uE := noUnwrapE
  have vE := noUnwrapsE
  have nW := noIsF
  have uW := hasUnwrapF
  have mU := methodUnwrap
  have heq := run_eql_iface_ptr_other (P := Tryd.prog) w Tryd.underlying25 Tryd.underlying127 hi hcmp hj (by rw [hjs]; decide) hne ha hb
  have hty := run_eql_iface_types (P := Tryd.prog) 76 127 (.pointer (some ⟨F, 0, none⟩)) (.pointer (some b)) Tryd.underlying25 (by decide) w
  go_enter Tryd.func50, Tryd.ntmps50
  go_wp2
  refine wp_loop_rounds 2 ?_
  rw [rounds_succ]
  go_wp2
  rw [rounds_succ]
  go_wp2
  go_ret
  exact ⟨rfl, rfl⟩
end Go.Proofs.YteacjlalekbhpaaDoor
namespace Go.Proofs.YteacjlalekbhpaaDoor
open Go.RowKit Go.Extern.Stop Go.Stop Go.Extern
set_option linter.unusedSimpArgs false
set_option maxRecDepth 100000
theorem as_nil (t : Value) (w : World) :
    Calls Tryd.prog 49 #[.nilIface, t] w fun e w' => e = .returned (.bool false) ∧ w = w' := by
  go_enter Tryd.func49, Tryd.ntmps49
  go_wp2
  go_ret
  exact ⟨rfl, rfl⟩
theorem valueOfPP (t : Addr) (w : World) : (ReflectliteValue.unpack (.iface 78 (.pointer (some t)))).run Tryd.prog w
    = .ok (.agg #[hdl 78, .pointer (some ⟨w.heap.size, 0, none⟩), .int .u64 150]) (w.alloc (.cells #[.pointer (some t)] 78)) := by kernel_rfl
theorem typePP (a : Addr) (w : World) : (ReflectliteValue.methodAny (ReflectliteValue.valueError "reflectlite.Value.Type" 0) (fun t _ _ _ => ReflectliteType.toType t) #[.agg #[hdl 78, .pointer (some a), .int .u64 150]]).run Tryd.prog w
    = .ok (.iface 107 (.agg #[hdl 78])) w := by kernel_rfl
theorem methodKind (n : Nat) (h : Value) (w : World) : (Go.method (n + 1) 107 (.agg #[h]) "Kind").run Tryd.prog w = .ok (104, h) w := by kernel_rfl
theorem methodElem (n : Nat) (h : Value) (w : World) : (Go.method (n + 1) 107 (.agg #[h]) "Elem").run Tryd.prog w = .ok (118, .agg #[h]) w := by kernel_rfl
theorem methodImplements (n : Nat) (h : Value) (w : World) : (Go.method (n + 1) 107 (.agg #[h]) "Implements").run Tryd.prog w = .ok (119, .agg #[h]) w := by kernel_rfl
theorem methodAssignableTo (n : Nat) (h : Value) (w : World) : (Go.method (n + 1) 107 (.agg #[h]) "AssignableTo").run Tryd.prog w = .ok (116, .agg #[h]) w := by kernel_rfl
theorem kindPP (w : World) : ((ReflectliteType.abiMethod fun t => do pure (.int .u8 (← Rtype.kind t))) #[hdl 78]).run Tryd.prog w = .ok (.int .u8 22) w := by kernel_rfl
theorem kindP (w : World) : ((ReflectliteType.abiMethod fun t => do pure (.int .u8 (← Rtype.kind t))) #[hdl 76]).run Tryd.prog w = .ok (.int .u8 22) w := by kernel_rfl
theorem elemPP (w : World) : (ReflectliteType.method ReflectliteType.elem #[.agg #[hdl 78]]).run Tryd.prog w = .ok (.iface 107 (.agg #[hdl 76])) w := by kernel_rfl
theorem implP (w : World) : (ReflectliteType.relation "Implements" ReflectliteType.implements_ #[.agg #[hdl 76], .iface 107 (.agg #[hdl 25])]).run Tryd.prog w = .ok (.bool true) w := by kernel_rfl
theorem typeOfP (v : Value) (w : World) : (ReflectliteType.typeOf #[.iface 76 v]).run Tryd.prog w = .ok (.iface 107 (.agg #[hdl 76])) w := by kernel_rfl
theorem assignP (w : World) : (ReflectliteType.relation "AssignableTo" ReflectliteType.assignableTo #[.agg #[hdl 76], .iface 107 (.agg #[hdl 76])]).run Tryd.prog w = .ok (.bool true) w := by kernel_rfl
theorem assignE (w : World) : (ReflectliteType.relation "AssignableTo" ReflectliteType.assignableTo #[.agg #[hdl 127], .iface 107 (.agg #[hdl 76])]).run Tryd.prog w = .ok (.bool false) w := by kernel_rfl
theorem valueOfP (e : Addr) (w : World) : (ReflectliteValue.unpack (.iface 76 (.pointer (some e)))).run Tryd.prog w
    = .ok (.agg #[hdl 76, .pointer (some ⟨w.heap.size, 0, none⟩), .int .u64 150]) (w.alloc (.cells #[.pointer (some e)] 76)) := by kernel_rfl
theorem rlm (z : Sem Value) (f : TypeId → Addr → Nat → Nat → Sem Value) (v : Value) :
    ReflectliteValue.method z f #[v] = (do match ← ReflectliteValue.parts v with | none => z | some (t, a, fl) => f t a fl (fl % 32)) := rfl
theorem partsPP (a : Addr) (w : World) : (ReflectliteValue.parts (.agg #[hdl 78, .pointer (some a), .int .u64 150])).run Tryd.prog w = .ok (some (78, a, 150)) w := by kernel_rfl
theorem isNilPP (a p : Addr) (W : World) (ha : W.cell? a = some (.pointer (some p))) :
    (ReflectliteValue.method (ReflectliteValue.valueError "reflectlite.Value.IsNil" 0) ReflectliteValue.isNil #[.agg #[hdl 78, .pointer (some a), .int .u64 150]]).run Tryd.prog W = .ok (.bool false) W := by
  rw [rlm]
  simp only [Sem.run_bind, partsPP, Result.andThen]
  simp [ReflectliteValue.isNil, loadVar, isAgg, underlying, Tryd.underlying78, ha, Result.andThen]
theorem elemOfPP (w : World) : (Rtype.elem? 78).run Tryd.prog w = .ok (some 76) w := by kernel_rfl
theorem mkP (p : Addr) (w : World) : (ReflectliteValue.mk 76 p ReflectliteValue.flagAddr).run Tryd.prog w = .ok (.agg #[hdl 76, .pointer (some p), .int .u64 406]) w := by kernel_rfl
theorem elemVPP (a p : Addr) (W : World) (ha : W.cell? a = some (.pointer (some p))) :
    (ReflectliteValue.method (ReflectliteValue.valueError "reflectlite.Value.Elem" 0) ReflectliteValue.elem #[.agg #[hdl 78, .pointer (some a), .int .u64 150]]).run Tryd.prog W
      = .ok (.agg #[hdl 76, .pointer (some p), .int .u64 406]) W := by
  rw [rlm]
  simp only [Sem.run_bind, partsPP, Result.andThen]
  simp [ReflectliteValue.elem, loadVar, isAgg, underlying, Tryd.underlying78, ha, Result.andThen, elemOfPP, mkP]
theorem rls (v x : Value) : ReflectliteValue.set #[v, x] = (do
    let (some (dst, a, fl), some (src, b, _)) := (← ReflectliteValue.parts v, ← ReflectliteValue.parts x)
      | unsupported (.noEntry "extern/(internal/reflectlite.Value).Set.zeroValue")
    if fl / ReflectliteValue.flagAddr % 2 == 0 then unsupported (.noEntry "extern/(internal/reflectlite.Value).Set.unaddressable")
    let val ← loadVar src b
    if ← Rtype.directlyAssignable dst src then storeVar dst a val
    else if ← Rtype.implements dst src then
      if (← Rtype.kind src) == 20 then
        match val with
        | .nilIface => unsupported (.noEntry "extern/reflectlite: a nil value of one interface type handed on as a value of another")
        | _ => storeVar dst a val
      else storeVar dst a (.iface src val)
    else panicString ("reflectlite.Set: value of type " ++ (← Rtype.spelt src) ++ " is not assignable to type " ++ (← Rtype.spelt dst))
    pure (.tuple #[])) := rfl
theorem partsPa (a : Addr) (w : World) : (ReflectliteValue.parts (.agg #[hdl 76, .pointer (some a), .int .u64 406])).run Tryd.prog w = .ok (some (76, a, 406)) w := by kernel_rfl
theorem partsP (a : Addr) (w : World) : (ReflectliteValue.parts (.agg #[hdl 76, .pointer (some a), .int .u64 150])).run Tryd.prog w = .ok (some (76, a, 150)) w := by kernel_rfl
theorem directP (w : World) : (Rtype.directlyAssignable 76 76).run Tryd.prog w = .ok true w := by kernel_rfl
theorem setP (ta b e : Addr) (old : Value) (W : World) (hb : W.cell? b = some (.pointer (some e))) (ht : W.cell? ta = some old) (hf : W.frozen? ta = false) :
    (ReflectliteValue.set #[.agg #[hdl 76, .pointer (some ta), .int .u64 406], .agg #[hdl 76, .pointer (some b), .int .u64 150]]).run Tryd.prog W
      = .ok (.tuple #[]) (W.setCell ta (.pointer (some e))) := by
  rw [rls]
  simp only [Sem.run_bind, partsPa, partsP, Result.andThen]
  simp [ReflectliteValue.flagAddr, loadVar, isAgg, underlying, Tryd.underlying76, hb, Result.andThen, directP, storeVar, Value.cells, storeCells, Addr.add]
  rw [run_store Tryd.prog W ta _ _ (by rfl)]
  simp [ht, hf]
theorem noAsE (v : Value) (xT : TypeId) (w : World) : (Instr.typeAssert (.iface 127 v) xT 111 true).run Tryd.prog w = .ok (.tuple #[.nilIface, .bool false]) w := run_typeAssert_lacksB Tryd.underlying111 (by kernel_rfl) (by kernel_rfl) v xT w
theorem call_valueOf (x : Value) (v : Value) (w w' : World) (h : (ReflectliteValue.unpack x).run Tryd.prog w = .ok v w') : (callFunc 60 #[x]).run Tryd.prog w = .ok (.value v) w' := by
  rw [@run_callFunc_extern Tryd.prog 60 _ (fun args => ReflectliteValue.unpack (args.getD 0 (.tuple #[]))) Tryd.func60 (by kernel_rfl) (by kernel_rfl) (by kernel_rfl) (by kernel_rfl)]
  show ((ReflectliteValue.unpack x).run Tryd.prog w).andThen _ = _
  rw [h]; rfl
theorem call_type (x : Value) (v : Value) (w w' : World) (h : (ReflectliteValue.methodAny (ReflectliteValue.valueError "reflectlite.Value.Type" 0) (fun t _ _ _ => ReflectliteType.toType t) #[x]).run Tryd.prog w = .ok v w') : (callFunc 61 #[x]).run Tryd.prog w = .ok (.value v) w' := by
  rw [@run_callFunc_extern Tryd.prog 61 _ (ReflectliteValue.methodAny (ReflectliteValue.valueError "reflectlite.Value.Type" 0) (fun t _ _ _ => ReflectliteType.toType t)) Tryd.func61 (by kernel_rfl) (by kernel_rfl) (by kernel_rfl) (by kernel_rfl), h]; rfl
theorem call_isNil (x : Value) (v : Value) (w w' : World) (h : (ReflectliteValue.method (ReflectliteValue.valueError "reflectlite.Value.IsNil" 0) ReflectliteValue.isNil #[x]).run Tryd.prog w = .ok v w') : (callFunc 62 #[x]).run Tryd.prog w = .ok (.value v) w' := by
  rw [@run_callFunc_extern Tryd.prog 62 _ (ReflectliteValue.method (ReflectliteValue.valueError "reflectlite.Value.IsNil" 0) ReflectliteValue.isNil) Tryd.func62 (by kernel_rfl) (by kernel_rfl) (by kernel_rfl) (by kernel_rfl), h]; rfl
theorem call_velem (x : Value) (v : Value) (w w' : World) (h : (ReflectliteValue.method (ReflectliteValue.valueError "reflectlite.Value.Elem" 0) ReflectliteValue.elem #[x]).run Tryd.prog w = .ok v w') : (callFunc 72 #[x]).run Tryd.prog w = .ok (.value v) w' := by
  rw [@run_callFunc_extern Tryd.prog 72 _ (ReflectliteValue.method (ReflectliteValue.valueError "reflectlite.Value.Elem" 0) ReflectliteValue.elem) Tryd.func72 (by kernel_rfl) (by kernel_rfl) (by kernel_rfl) (by kernel_rfl), h]; rfl
theorem call_set (x y : Value) (v : Value) (w w' : World) (h : (ReflectliteValue.set #[x, y]).run Tryd.prog w = .ok v w') : (callFunc 73 #[x, y]).run Tryd.prog w = .ok (.value v) w' := by
  rw [@run_callFunc_extern Tryd.prog 73 _ ReflectliteValue.set Tryd.func73 (by kernel_rfl) (by kernel_rfl) (by kernel_rfl) (by kernel_rfl), h]; rfl
theorem call_kind (x : Value) (v : Value) (w w' : World) (h : ((ReflectliteType.abiMethod fun t => do pure (.int .u8 (← Rtype.kind t))) #[x]).run Tryd.prog w = .ok v w') : (callFunc 104 #[x]).run Tryd.prog w = .ok (.value v) w' := by
  rw [@run_callFunc_extern Tryd.prog 104 _ (ReflectliteType.abiMethod fun t => do pure (.int .u8 (← Rtype.kind t))) Tryd.func104 (by kernel_rfl) (by kernel_rfl) (by kernel_rfl) (by kernel_rfl), h]; rfl
theorem call_elem (x : Value) (v : Value) (w w' : World) (h : (ReflectliteType.method ReflectliteType.elem #[x]).run Tryd.prog w = .ok v w') : (callFunc 118 #[x]).run Tryd.prog w = .ok (.value v) w' := by
  rw [@run_callFunc_extern Tryd.prog 118 _ (ReflectliteType.method ReflectliteType.elem) Tryd.func118 (by kernel_rfl) (by kernel_rfl) (by kernel_rfl) (by kernel_rfl), h]; rfl
theorem call_impl (x y : Value) (v : Value) (w w' : World) (h : (ReflectliteType.relation "Implements" ReflectliteType.implements_ #[x, y]).run Tryd.prog w = .ok v w') : (callFunc 119 #[x, y]).run Tryd.prog w = .ok (.value v) w' := by
  rw [@run_callFunc_extern Tryd.prog 119 _ (ReflectliteType.relation "Implements" ReflectliteType.implements_) Tryd.func119 (by kernel_rfl) (by kernel_rfl) (by kernel_rfl) (by kernel_rfl), h]; rfl
theorem call_assign (x y : Value) (v : Value) (w w' : World) (h : (ReflectliteType.relation "AssignableTo" ReflectliteType.assignableTo #[x, y]).run Tryd.prog w = .ok v w') : (callFunc 116 #[x, y]).run Tryd.prog w = .ok (.value v) w' := by
  rw [@run_callFunc_extern Tryd.prog 116 _ (ReflectliteType.relation "AssignableTo" ReflectliteType.assignableTo) Tryd.func116 (by kernel_rfl) (by kernel_rfl) (by kernel_rfl) (by kernel_rfl), h]; rfl
theorem call_typeOf (x : Value) (v : Value) (w w' : World) (h : (ReflectliteType.typeOf #[x]).run Tryd.prog w = .ok v w') : (callFunc 64 #[x]).run Tryd.prog w = .ok (.value v) w' := by
  rw [@run_callFunc_extern Tryd.prog 64 _ ReflectliteType.typeOf Tryd.func64 (by kernel_rfl) (by kernel_rfl) (by kernel_rfl) (by kernel_rfl), h]; rfl
/-- the variable of package errors that holds the type error -/
def ErrType (w : World) : Prop := w.cell? ⟨9, 0, none⟩ = some (.iface 107 (.agg #[hdl 25]))
set_option maxHeartbeats 4000000 in
theorem as_hit (e t : Addr) (old : Value) (w : World) (hg : ErrType w) (ht0 : w.cell? t = some old) (hf0 : w.frozen? t = false) :
    Calls Tryd.prog 49 #[.iface 76 (.pointer (some e)), .iface 78 (.pointer (some t))] w fun ev w' => ev = .returned (.bool true) ∧ Keeps (fun k => k = t.block) w w' ∧ w'.cell? t = some (.pointer (some e)) ∧ w'.frozen? t = false := by
  unfold ErrType at hg
  have hlt : 9 < w.heap.size := World.block_lt_of_cell? w _ hg
  have htl : t.block < w.heap.size := World.block_lt_of_cell? w _ ht0
  have f6 := fun (t : Addr) w => call_valueOf _ _ _ _ (valueOfPP t w)
  have f7 := fun (a : Addr) w => call_type _ _ _ _ (typePP a w)
  have k27 := fun w => call_kind _ _ _ _ (kindPP w)
  have k25 := fun w => call_kind _ _ _ _ (kindP w)
  have e27 := fun w => call_elem _ _ _ _ (elemPP w)
  have i25 := fun w => call_impl _ _ _ _ _ (implP w)
  have tO := fun v w => call_typeOf _ _ _ _ (typeOfP v w)
  have a25 := fun w => call_assign _ _ _ _ _ (assignP w)
  have v25 := fun e w => call_valueOf _ _ _ _ (valueOfP e w)
  have mK := methodKind
  have mE := methodElem
  have mI := methodImplements
  have mA := methodAssignableTo
  have n8 := call_isNil _ _ _ _ (isNilPP ⟨w.heap.size, 0, none⟩ t ((w.alloc (.cells #[.pointer (some t)] 78)).alloc (.cells #[hdl 78, .pointer (some ⟨w.heap.size, 0, none⟩), .int .u64 150] 89)) (by simp))
  have hg2 : ((w.alloc (.cells #[.pointer (some t)] 78)).alloc (.cells #[hdl 78, .pointer (some ⟨w.heap.size, 0, none⟩), .int .u64 150] 89)).cell? ⟨9, 0, none⟩ = some (.iface 107 (.agg #[hdl 25])) := by
    rw [World.cell?_alloc_lt _ _ ⟨9, 0, none⟩ (by simp; omega), World.cell?_alloc_lt _ _ ⟨9, 0, none⟩ hlt]; exact hg
  have el := call_velem _ _ _ _ (elemVPP ⟨w.heap.size, 0, none⟩ t (((w.alloc (.cells #[.pointer (some t)] 78)).alloc (.cells #[hdl 78, .pointer (some ⟨w.heap.size, 0, none⟩), .int .u64 150] 89)).alloc (.cells #[hdl 78, .pointer (some ⟨w.heap.size, 0, none⟩), .int .u64 150] 89)) (by rw [World.cell?_alloc_lt _ _ ⟨w.heap.size, 0, none⟩ (by simp; omega)]; simp))
  have c1 : ((((w.alloc (.cells #[.pointer (some t)] 78)).alloc (.cells #[hdl 78, .pointer (some ⟨w.heap.size, 0, none⟩), .int .u64 150] 89)).alloc (.cells #[hdl 78, .pointer (some ⟨w.heap.size, 0, none⟩), .int .u64 150] 89)).alloc (.cells #[.pointer (some e)] 76)).cell? t = some old := by rw [World.cell?_alloc_lt _ _ t (by simp; omega), World.cell?_alloc_lt _ _ t (by simp; omega), World.cell?_alloc_lt _ _ t (by simp; omega), World.cell?_alloc_lt _ _ t htl]; exact ht0
  have c2 : ((((w.alloc (.cells #[.pointer (some t)] 78)).alloc (.cells #[hdl 78, .pointer (some ⟨w.heap.size, 0, none⟩), .int .u64 150] 89)).alloc (.cells #[hdl 78, .pointer (some ⟨w.heap.size, 0, none⟩), .int .u64 150] 89)).alloc (.cells #[.pointer (some e)] 76)).frozen? t = false := by rw [World.frozen?_alloc_old _ _ t (by simp; omega), World.frozen?_alloc_old _ _ t (by simp; omega), World.frozen?_alloc_old _ _ t (by simp; omega), World.frozen?_alloc_old _ _ t (Nat.ne_of_lt htl)]; exact hf0
  have st := call_set _ _ _ _ _ (setP t ⟨w.heap.size + 1 + 1 + 1, 0, none⟩ e old ((((w.alloc (.cells #[.pointer (some t)] 78)).alloc (.cells #[hdl 78, .pointer (some ⟨w.heap.size, 0, none⟩), .int .u64 150] 89)).alloc (.cells #[hdl 78, .pointer (some ⟨w.heap.size, 0, none⟩), .int .u64 150] 89)).alloc (.cells #[.pointer (some e)] 76))
    (by rw [World.cell?_alloc_at _ _ _ _ (by simp)]; rfl) c1 c2)
  have fin : Keeps (fun k => k = t.block) w (((((w.alloc (.cells #[.pointer (some t)] 78)).alloc (.cells #[hdl 78, .pointer (some ⟨w.heap.size, 0, none⟩), .int .u64 150] 89)).alloc (.cells #[hdl 78, .pointer (some ⟨w.heap.size, 0, none⟩), .int .u64 150] 89)).alloc (.cells #[.pointer (some e)] 76)).setCell t (.pointer (some e))) :=
    (((((Keeps.refl (fun k => k = t.block) w).alloc _).alloc _).alloc _).alloc _).setCell (.inl rfl) _
  have C1 : (((((w.alloc (.cells #[.pointer (some t)] 78)).alloc (.cells #[hdl 78, .pointer (some ⟨w.heap.size, 0, none⟩), .int .u64 150] 89)).alloc (.cells #[hdl 78, .pointer (some ⟨w.heap.size, 0, none⟩), .int .u64 150] 89)).alloc (.cells #[.pointer (some e)] 76)).setCell t (.pointer (some e))).cell? t = some (.pointer (some e)) := World.cell?_setCell_same _ _ _ c1
  have C2 : (((((w.alloc (.cells #[.pointer (some t)] 78)).alloc (.cells #[hdl 78, .pointer (some ⟨w.heap.size, 0, none⟩), .int .u64 150] 89)).alloc (.cells #[hdl 78, .pointer (some ⟨w.heap.size, 0, none⟩), .int .u64 150] 89)).alloc (.cells #[.pointer (some e)] 76)).setCell t (.pointer (some e))).frozen? t = false := by rw [World.frozen?_setCell]; exact c2
  have HF := Lib.hid fin
  have H1 := Lib.hid C1
  have H2 := Lib.hid C2
  clear fin C1 C2 c1 c2
  go_enter Tryd.func49, Tryd.ntmps49
  go_wp2
  refine wp_loop_rounds 1 ?_
  rw [rounds_succ]
  go_wp2
  go_ret
  exact ⟨rfl, HF.out, H1.out, H2.out⟩
set_option maxHeartbeats 4000000 in
theorem as_miss (e t : Addr) (w : World) (hg : ErrType w) :
    Calls Tryd.prog 49 #[.iface 127 (.pointer (some e)), .iface 78 (.pointer (some t))] w fun ev w' => ev = .returned (.bool false) ∧ Ext w w' := by
  unfold ErrType at hg
  have hlt : 9 < w.heap.size := World.block_lt_of_cell? w _ hg
  have f6 := fun (t : Addr) w => call_valueOf _ _ _ _ (valueOfPP t w)
  have f7 := fun (a : Addr) w => call_type _ _ _ _ (typePP a w)
  have k27 := fun w => call_kind _ _ _ _ (kindPP w)
  have k25 := fun w => call_kind _ _ _ _ (kindP w)
  have e27 := fun w => call_elem _ _ _ _ (elemPP w)
  have i25 := fun w => call_impl _ _ _ _ _ (implP w)
  have tO := call_typeOfE
  have a25 := fun w => call_assign _ _ _ _ _ (assignE w)
  have mK := methodKind
  have mE := methodElem
  have mI := methodImplements
  have mA := methodAssignableTo
  have nA := noAsE
  have uE := noUnwrapE
  have vE := noUnwrapsE
  have n8 := call_isNil _ _ _ _ (isNilPP ⟨w.heap.size, 0, none⟩ t ((w.alloc (.cells #[.pointer (some t)] 78)).alloc (.cells #[hdl 78, .pointer (some ⟨w.heap.size, 0, none⟩), .int .u64 150] 89)) (by simp))
  have hg2 : ((w.alloc (.cells #[.pointer (some t)] 78)).alloc (.cells #[hdl 78, .pointer (some ⟨w.heap.size, 0, none⟩), .int .u64 150] 89)).cell? ⟨9, 0, none⟩ = some (.iface 107 (.agg #[hdl 25])) := by
    rw [World.cell?_alloc_lt _ _ ⟨9, 0, none⟩ (by simp; omega), World.cell?_alloc_lt _ _ ⟨9, 0, none⟩ hlt]; exact hg
  have fin : Ext w (((w.alloc (.cells #[.pointer (some t)] 78)).alloc (.cells #[hdl 78, .pointer (some ⟨w.heap.size, 0, none⟩), .int .u64 150] 89)).alloc (.cells #[hdl 78, .pointer (some ⟨w.heap.size, 0, none⟩), .int .u64 150] 89)) :=
    (((Ext.refl w).alloc _).alloc _).alloc _
  have HF := Lib.hid fin
  clear fin
  go_enter Tryd.func49, Tryd.ntmps49
  go_wp2
  refine wp_loop_rounds 1 ?_
  rw [rounds_succ]
  go_wp2
  go_ret
  exact ⟨rfl, HF.out⟩
end Go.Proofs.YteacjlalekbhpaaDoor
