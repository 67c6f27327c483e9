/- The walks of PixelStill and PixelCovers: whatever the input, they return true; new blocks alone are made. -/
import Derived.Test.YteacjlalekbhpaaDoorPixOverAll
namespace Go.Proofs.YteacjlalekbhpaaDoor
open Go.RowKit
theorem bcell {W w1 : World} (hb : Below W.heap.size W w1) : (∀ b o, b < W.heap.size → w1.cell? ⟨b, o, none⟩ = W.cell? ⟨b, o, none⟩) ∧ (∀ b o, b < W.heap.size → w1.frozen? ⟨b, o, none⟩ = W.frozen? ⟨b, o, none⟩) :=
  ⟨fun b o h => hb.cell (p := ⟨b, o, none⟩) h, fun b o h => hb.frozen (p := ⟨b, o, none⟩) h⟩
theorem over_walk (m r g b a r' g' b' a' : Int) (o : P4) (w : World) (hm : 0 ≤ m ∧ m < 6) (hp : (P4.mk r g b a).Ok) (hq : (P4.mk r' g' b' a').Ok) (ho : P4.over m ⟨r, g, b, a⟩ ⟨r', g', b', a'⟩ = o) :
    Calls Tryd.prog 20 #[.int .i64 m, .agg #[.int .u8 r, .int .u8 g, .int .u8 b, .int .u8 a], .agg #[.int .u8 r', .int .u8 g', .int .u8 b', .int .u8 a']] w fun e w' =>
      e = .returned (.tuple #[.agg #[.int .u8 o.r, .int .u8 o.g, .int .u8 o.b, .int .u8 o.a], .nilIface]) ∧ Below w.heap.size w w' := by
  have := over_any m ⟨r, g, b, a⟩ ⟨r', g', b', a'⟩ w hm hp hq
  rw [ho] at this
  exact this
theorem p4_ok {r g b a : Int} (h : (0 ≤ r ∧ r ≤ 255) ∧ (0 ≤ g ∧ g ≤ 255) ∧ (0 ≤ b ∧ b ≤ 255) ∧ (0 ≤ a ∧ a ≤ 255)) : (P4.mk r g b a).Ok := ⟨h.1, h.2.1, h.2.2.1, h.2.2.2⟩
set_option maxRecDepth 100000 in
theorem half_any (w : World) : Calls Tryd.prog 19 #[] w fun e w' => e = .returned (.bool true) ∧ Ext w w' := by
  have h1 := fun W => over_walk 0 255 255 255 128 0 0 0 255 ⟨128, 128, 128, 255⟩ W (by decide) (p4_ok (by decide)) (p4_ok (by decide)) rfl
  have H1 := Lib.hid h1
  clear h1
  go_enter Tryd.func19, Tryd.ntmps19
  go_wp2_with fail
  refine (H1.out _).mono ?_
  rintro e w1 ⟨rfl, hb⟩
  go_wp2_with fail
  go_ret
  exact ⟨rfl, Ext.alloc hb _⟩
theorem still_mode (m r g b a r' g' b' a' : Int) (w : World) (h : m < 0 ∨ 5 < m) :
    Calls Tryd.prog 5 #[.int .i64 m, .agg #[.int .u8 r, .int .u8 g, .int .u8 b, .int .u8 a], .agg #[.int .u8 r', .int .u8 g', .int .u8 b', .int .u8 a']] w fun e w' => e = .returned (.bool true) ∧ Below w.heap.size w w' := by
  by_cases h1 : m < 0
  · go_enter Tryd.func5, Tryd.ntmps5
    go_wp2_with (go_at_call 19; refine (half_any _).mono ?_; rintro e w' ⟨rfl, hx⟩)
    go_ret
    exact ⟨rfl, (((Below.refl _ _).alloc (Nat.le_refl _) _).alloc (by simp) _).trans (Below.mono hx (by simp; omega))⟩
  · have h2 : 5 < m := by omega
    go_enter Tryd.func5, Tryd.ntmps5
    go_wp2_with (go_at_call 19; refine (half_any _).mono ?_; rintro e w' ⟨rfl, hx⟩)
    go_ret
    exact ⟨rfl, (((Below.refl _ _).alloc (Nat.le_refl _) _).alloc (by simp) _).trans (Below.mono hx (by simp; omega))⟩
/-- four cells that hold a pixel; they may be written -/
def PixAt (w : World) (B : Nat) (r g b a : Int) : Prop :=
  w.cell? ⟨B, 0, none⟩ = some (.int .u8 r) ∧ w.cell? ⟨B, 1, none⟩ = some (.int .u8 g) ∧ w.cell? ⟨B, 2, none⟩ = some (.int .u8 b) ∧ w.cell? ⟨B, 3, none⟩ = some (.int .u8 a)
theorem PixAt.on {w w' : World} {m B : Nat} {r g b a : Int} (h : PixAt w B r g b a) (hb : Below m w w') (hB : B < m) : PixAt w' B r g b a :=
  ⟨(hb.cell hB).trans h.1, (hb.cell hB).trans h.2.1, (hb.cell hB).trans h.2.2.1, (hb.cell hB).trans h.2.2.2⟩
theorem PixAt.new (w : World) (r g b a : Int) (t : TypeId) : PixAt (w.alloc (.cells #[.int .u8 r, .int .u8 g, .int .u8 b, .int .u8 a] t)) w.heap.size r g b a := by
  refine ⟨?_, ?_, ?_, ?_⟩ <;> go_simp
theorem PixAt.old {w : World} {B : Nat} {r g b a : Int} (h : PixAt w B r g b a) (hB : B < w.heap.size) (o : Obj) : PixAt (w.alloc o) B r g b a :=
  h.on ((Below.refl w.heap.size w).alloc (Nat.le_refl _) o) hB
set_option maxRecDepth 100000 in
set_option maxHeartbeats 1000000 in
theorem still_yes (m r g b a r' g' b' a' : Int) (w : World) (hm : 0 ≤ m ∧ m < 6) (hp : (P4.mk r g b a).Ok) (hq0 : (P4.mk r' g' b' a').Ok) (ha : ((a : Int) == 0) = false) :
    Calls Tryd.prog 5 #[.int .i64 m, .agg #[.int .u8 r, .int .u8 g, .int .u8 b, .int .u8 a], .agg #[.int .u8 r', .int .u8 g', .int .u8 b', .int .u8 a']] w fun e w' => e = .returned (.bool true) ∧ Below w.heap.size w w' := by
  have ha' : a ≠ 0 := by rw [beq_eq_false_iff_ne] at ha; exact ha
  have H1 := Lib.hid fun W => over_walk m r g b a 0 0 0 0 ⟨r, g, b, a⟩ W hm hp P4.zero_ok (P4.over_zero m _ hp ha')
  have H2 := Lib.hid fun W => over_walk m 0 0 0 0 r g b a ⟨r, g, b, a⟩ W hm P4.zero_ok hp (P4.zero_over m _ hp ha')
  have hfull : (P4.mk r g b 255).Ok := ⟨hp.r, hp.g, hp.b, show (0 : Int) ≤ 255 by decide, show (255 : Int) ≤ 255 by decide⟩
  have H3 := Lib.hid fun W => over_walk 0 r g b 255 r' g' b' a' ⟨r, g, b, 255⟩ W (by decide) hfull hq0 (P4.full_over _ _ hfull hq0 rfl)
  obtain ⟨hm0, hm1⟩ := hm
  clear ha'
  go_enter Tryd.func5, Tryd.ntmps5
  go_wp2_with fail
  refine (half_any _).mono ?_
  rintro e w0 ⟨rfl, hb0⟩
  have s0 : w.heap.size + 2 ≤ w0.heap.size := by have := Below.size hb0; simpa using this
  have pa0 := ((PixAt.new w r g b a 34).old (by simp <;> omega) (.cells #[.int .u8 r', .int .u8 g', .int .u8 b', .int .u8 a'] 34)).on hb0 (by simp <;> omega)
  have pb0 := (PixAt.new (w.alloc (.cells #[.int .u8 r, .int .u8 g, .int .u8 b, .int .u8 a] 34)) r' g' b' a' 34).on hb0 (by simp <;> omega)
  rw [World.size_alloc] at pb0
  have PA0 := Lib.hid pa0
  have PB0 := Lib.hid pb0
  have K0 : Below w.heap.size w w0 := (((Below.refl _ _).alloc (Nat.le_refl _) _).alloc (by simp) _).trans (Below.mono hb0 (by simp; omega))
  obtain ⟨a0, a1, a2, a3⟩ := pa0
  obtain ⟨b0, b1, b2, b3⟩ := pb0
  clear hb0
  go_wp2_with fail
  refine (H1.out _).mono ?_
  rintro e w1 ⟨rfl, hb1⟩
  clear a0 a1 a2 a3 b0 b1 b2 b3
  have s1 : w0.heap.size ≤ w1.heap.size := hb1.size
  have pa1 := PA0.out.on hb1 (by omega)
  have pb1 := PB0.out.on hb1 (by omega)
  have PA1 := Lib.hid pa1
  have PB1 := Lib.hid pb1
  have K1 : Below w.heap.size w w1 := K0.trans (hb1.mono (by omega))
  obtain ⟨a0, a1, a2, a3⟩ := pa1
  have l1 : w.heap.size < w1.heap.size := by omega
  clear hb1 pb1
  go_wp2_with fail
  refine (H2.out _).mono ?_
  rintro e w2 ⟨rfl, hb2⟩
  clear a0 a1 a2 a3 l1
  have s2 : w1.heap.size + 1 ≤ w2.heap.size := by have := hb2.size; simpa using this
  have hb2' : Below w1.heap.size w1 w2 := ((Below.refl _ _).alloc (Nat.le_refl _) _).trans (hb2.mono (by simp))
  have pa2 := PA1.out.on hb2' (by omega)
  have pb2 := PB1.out.on hb2' (by omega)
  have px2 := (PixAt.new w1 (r) (g) (b) (a) 34).on hb2 (by simp)
  have PA2 := Lib.hid pa2
  have PB2 := Lib.hid pb2
  have K2 : Below w.heap.size w w2 := K1.trans (hb2'.mono (by omega))
  obtain ⟨a0, a1, a2, a3⟩ := pa2
  obtain ⟨b0, b1, b2, b3⟩ := pb2
  obtain ⟨x0, x1, x2, x3⟩ := px2
  have l1 : w.heap.size < w2.heap.size := by omega
  have l2 : w.heap.size + 1 < w2.heap.size := by omega
  have l3 : w1.heap.size < w2.heap.size := by omega
  clear hb2 hb2'
  go_wp2_with fail
  refine (H3.out _).mono ?_
  rintro e w3 ⟨rfl, hb3⟩
  clear a0 a1 a2 a3 b0 b1 b2 b3 x0 x1 x2 x3 l1 l2 l3
  have s3 : w2.heap.size + 3 ≤ w3.heap.size := by have := hb3.size; simpa using this
  have hb3' : Below w2.heap.size w2 w3 := ((((Below.refl _ _).alloc (Nat.le_refl _) _).alloc (by simp) _).alloc (by simp <;> omega) _).trans (hb3.mono (by simp <;> omega))
  have pf3 := (PixAt.new ((w2.alloc (.cells #[.int .u8 r, .int .u8 g, .int .u8 b, .int .u8 a] 34)).alloc (.cells #[.int .u8 r, .int .u8 g, .int .u8 b, .int .u8 a] 34)) r g b 255 34).on hb3 (by simp)
  rw [World.size_alloc, World.size_alloc] at pf3
  have pa3 := PA2.out.on hb3' (by omega)
  have pb3 := PB2.out.on hb3' (by omega)
  have PA3 := Lib.hid pa3
  have PB3 := Lib.hid pb3
  have K3 : Below w.heap.size w w3 := K2.trans (hb3'.mono (by omega))
  obtain ⟨a0, a1, a2, a3⟩ := pa3
  obtain ⟨b0, b1, b2, b3⟩ := pb3
  obtain ⟨f0, f1, f2, f3⟩ := pf3
  have l1 : w.heap.size < w3.heap.size := by omega
  have l2 : w.heap.size + 1 < w3.heap.size := by omega
  have l3 : w2.heap.size + 1 + 1 < w3.heap.size := by omega
  clear hb3 hb3'
  by_cases hm : m = 0
  · have hq : (m == 0) = true := by rw [beq_iff_eq]; exact hm
    clear hm
    go_wp2_with fail
    go_ret
    exact ⟨rfl, K3.alloc K3.size _⟩
  have hq : (m == 0) = false := by rw [beq_eq_false_iff_ne]; exact hm
  by_cases hab : a = a'
  · have hqa : ((a : Int) != a') = false := by rw [bne_eq_false_iff_eq]; exact hab
    have H4 := Lib.hid fun W => over_walk m r g b a r' g' b' a' (P4.over m ⟨r, g, b, a⟩ ⟨r', g', b', a'⟩) W ⟨hm0, hm1⟩ hp hq0 rfl
    have H5 := Lib.hid fun W => over_walk m r' g' b' a' r g b a (P4.over m ⟨r, g, b, a⟩ ⟨r', g', b', a'⟩) W ⟨hm0, hm1⟩ hq0 hp (P4.over_comm m _ _ hm hab.symm)
    generalize P4.over m ⟨r, g, b, a⟩ ⟨r', g', b', a'⟩ = o at *
    obtain ⟨o1, o2, o3, o4⟩ := o
    simp only at H4 H5
    clear hm hab
    go_wp2_with fail
    refine (H4.out _).mono ?_
    rintro e w4 ⟨rfl, hb4⟩
    clear a0 a1 a2 a3 b0 b1 b2 b3 f0 f1 f2 f3 l1 l2 l3
    have s4 : w3.heap.size + 1 ≤ w4.heap.size := by have := hb4.size; simpa using this
    have hb4' : Below w3.heap.size w3 w4 := ((Below.refl _ _).alloc (Nat.le_refl _) _).trans (hb4.mono (by simp))
    have pa4 := PA3.out.on hb4' (by omega)
    have pb4 := PB3.out.on hb4' (by omega)
    have K4 : Below w.heap.size w w4 := K3.trans (hb4'.mono (by omega))
    obtain ⟨a0, a1, a2, a3⟩ := pa4
    obtain ⟨b0, b1, b2, b3⟩ := pb4
    have l1 : w.heap.size < w4.heap.size := by omega
    have l2 : w.heap.size + 1 < w4.heap.size := by omega
    clear hb4 hb4'
    go_wp2_with fail
    refine (H5.out _).mono ?_
    rintro e w5 ⟨rfl, hb5⟩
    clear a0 a1 a2 a3 b0 b1 b2 b3 l1 l2
    have s5 : w4.heap.size + 1 ≤ w5.heap.size := by have := hb5.size; simpa using this
    have pp5 := (PixAt.new w4 o1 o2 o3 o4 34).on hb5 (by simp)
    have K5 : Below w.heap.size w w5 := (K4.alloc K4.size _).trans (hb5.mono (by simp; omega))
    obtain ⟨a0, a1, a2, a3⟩ := pp5
    have l1 : w4.heap.size < w5.heap.size := by omega
    clear hb5
    go_wp2_with fail
    go_ret
    exact ⟨rfl, K5.alloc K5.size _⟩
  · have hqa : ((a : Int) != a') = true := by rw [bne_iff_ne]; exact hab
    clear hm hab
    go_wp2_with fail
    go_ret
    exact ⟨rfl, K3.alloc K3.size _⟩
set_option maxRecDepth 100000 in
set_option maxHeartbeats 1000000 in
theorem still_nil (m r g b r' g' b' a' : Int) (w : World) (hm : 0 ≤ m ∧ m < 6) (hp : (P4.mk r g b 0).Ok) (hq0 : (P4.mk r' g' b' a').Ok) :
    Calls Tryd.prog 5 #[.int .i64 m, .agg #[.int .u8 r, .int .u8 g, .int .u8 b, .int .u8 0], .agg #[.int .u8 r', .int .u8 g', .int .u8 b', .int .u8 a']] w fun e w' => e = .returned (.bool true) ∧ Below w.heap.size w w' := by
  have H1 := Lib.hid fun W => over_walk m r g b 0 0 0 0 0 ⟨0, 0, 0, 0⟩ W hm hp P4.zero_ok (P4.over_nought m _ _ rfl rfl)
  have H2 := Lib.hid fun W => over_walk m 0 0 0 0 r g b 0 ⟨0, 0, 0, 0⟩ W hm P4.zero_ok hp (P4.over_nought m _ _ rfl rfl)
  have hfull : (P4.mk r g b 255).Ok := ⟨hp.r, hp.g, hp.b, show (0 : Int) ≤ 255 by decide, show (255 : Int) ≤ 255 by decide⟩
  have H3 := Lib.hid fun W => over_walk 0 r g b 255 r' g' b' a' ⟨r, g, b, 255⟩ W (by decide) hfull hq0 (P4.full_over _ _ hfull hq0 rfl)
  obtain ⟨hm0, hm1⟩ := hm
  go_enter Tryd.func5, Tryd.ntmps5
  go_wp2_with fail
  refine (half_any _).mono ?_
  rintro e w0 ⟨rfl, hb0⟩
  have s0 : w.heap.size + 2 ≤ w0.heap.size := by have := Below.size hb0; simpa using this
  have pa0 := ((PixAt.new w r g b 0 34).old (by simp <;> omega) (.cells #[.int .u8 r', .int .u8 g', .int .u8 b', .int .u8 a'] 34)).on hb0 (by simp <;> omega)
  have pb0 := (PixAt.new (w.alloc (.cells #[.int .u8 r, .int .u8 g, .int .u8 b, .int .u8 0] 34)) r' g' b' a' 34).on hb0 (by simp <;> omega)
  rw [World.size_alloc] at pb0
  have PA0 := Lib.hid pa0
  have PB0 := Lib.hid pb0
  have K0 : Below w.heap.size w w0 := (((Below.refl _ _).alloc (Nat.le_refl _) _).alloc (by simp) _).trans (Below.mono hb0 (by simp; omega))
  obtain ⟨a0, a1, a2, a3⟩ := pa0
  obtain ⟨b0, b1, b2, b3⟩ := pb0
  clear hb0
  go_wp2_with fail
  refine (H1.out _).mono ?_
  rintro e w1 ⟨rfl, hb1⟩
  clear a0 a1 a2 a3 b0 b1 b2 b3
  have s1 : w0.heap.size ≤ w1.heap.size := hb1.size
  have pa1 := PA0.out.on hb1 (by omega)
  have pb1 := PB0.out.on hb1 (by omega)
  have PA1 := Lib.hid pa1
  have PB1 := Lib.hid pb1
  have K1 : Below w.heap.size w w1 := K0.trans (hb1.mono (by omega))
  obtain ⟨a0, a1, a2, a3⟩ := pa1
  have l1 : w.heap.size < w1.heap.size := by omega
  clear hb1 pb1
  go_wp2_with fail
  refine (H2.out _).mono ?_
  rintro e w2 ⟨rfl, hb2⟩
  clear a0 a1 a2 a3 l1
  have s2 : w1.heap.size + 1 ≤ w2.heap.size := by have := hb2.size; simpa using this
  have hb2' : Below w1.heap.size w1 w2 := ((Below.refl _ _).alloc (Nat.le_refl _) _).trans (hb2.mono (by simp))
  have pa2 := PA1.out.on hb2' (by omega)
  have pb2 := PB1.out.on hb2' (by omega)
  have px2 := (PixAt.new w1 0 0 0 0 34).on hb2 (by simp)
  have PA2 := Lib.hid pa2
  have PB2 := Lib.hid pb2
  have K2 : Below w.heap.size w w2 := K1.trans (hb2'.mono (by omega))
  obtain ⟨a0, a1, a2, a3⟩ := pa2
  obtain ⟨b0, b1, b2, b3⟩ := pb2
  obtain ⟨x0, x1, x2, x3⟩ := px2
  have l1 : w.heap.size < w2.heap.size := by omega
  have l2 : w.heap.size + 1 < w2.heap.size := by omega
  have l3 : w1.heap.size < w2.heap.size := by omega
  clear hb2 hb2'
  go_wp2_with fail
  refine (H3.out _).mono ?_
  rintro e w3 ⟨rfl, hb3⟩
  clear a0 a1 a2 a3 b0 b1 b2 b3 x0 x1 x2 x3 l1 l2 l3
  have s3 : w2.heap.size + 3 ≤ w3.heap.size := by have := hb3.size; simpa using this
  have hb3' : Below w2.heap.size w2 w3 := ((((Below.refl _ _).alloc (Nat.le_refl _) _).alloc (by simp) _).alloc (by simp <;> omega) _).trans (hb3.mono (by simp <;> omega))
  have pf3 := (PixAt.new ((w2.alloc (.cells #[.int .u8 0, .int .u8 0, .int .u8 0, .int .u8 0] 34)).alloc (.cells #[.int .u8 0, .int .u8 0, .int .u8 0, .int .u8 0] 34)) r g b 255 34).on hb3 (by simp)
  rw [World.size_alloc, World.size_alloc] at pf3
  have pa3 := PA2.out.on hb3' (by omega)
  have pb3 := PB2.out.on hb3' (by omega)
  have PA3 := Lib.hid pa3
  have PB3 := Lib.hid pb3
  have K3 : Below w.heap.size w w3 := K2.trans (hb3'.mono (by omega))
  obtain ⟨a0, a1, a2, a3⟩ := pa3
  obtain ⟨b0, b1, b2, b3⟩ := pb3
  obtain ⟨f0, f1, f2, f3⟩ := pf3
  have l1 : w.heap.size < w3.heap.size := by omega
  have l2 : w.heap.size + 1 < w3.heap.size := by omega
  have l3 : w2.heap.size + 1 + 1 < w3.heap.size := by omega
  clear hb3 hb3'
  by_cases hm : m = 0
  · have hq : (m == 0) = true := by rw [beq_iff_eq]; exact hm
    clear hm
    go_wp2_with fail
    go_ret
    exact ⟨rfl, K3.alloc K3.size _⟩
  have hq : (m == 0) = false := by rw [beq_eq_false_iff_ne]; exact hm
  by_cases hab : 0 = a'
  · have hqa : ((0 : Int) != a') = false := by rw [bne_eq_false_iff_eq]; exact hab
    have H4 := Lib.hid fun W => over_walk m r g b 0 r' g' b' a' (P4.over m ⟨r, g, b, 0⟩ ⟨r', g', b', a'⟩) W ⟨hm0, hm1⟩ hp hq0 rfl
    have H5 := Lib.hid fun W => over_walk m r' g' b' a' r g b 0 (P4.over m ⟨r, g, b, 0⟩ ⟨r', g', b', a'⟩) W ⟨hm0, hm1⟩ hq0 hp (P4.over_comm m _ _ hm hab.symm)
    generalize P4.over m ⟨r, g, b, 0⟩ ⟨r', g', b', a'⟩ = o at *
    obtain ⟨o1, o2, o3, o4⟩ := o
    simp only at H4 H5
    clear hm hab
    go_wp2_with fail
    refine (H4.out _).mono ?_
    rintro e w4 ⟨rfl, hb4⟩
    clear a0 a1 a2 a3 b0 b1 b2 b3 f0 f1 f2 f3 l1 l2 l3
    have s4 : w3.heap.size + 1 ≤ w4.heap.size := by have := hb4.size; simpa using this
    have hb4' : Below w3.heap.size w3 w4 := ((Below.refl _ _).alloc (Nat.le_refl _) _).trans (hb4.mono (by simp))
    have pa4 := PA3.out.on hb4' (by omega)
    have pb4 := PB3.out.on hb4' (by omega)
    have K4 : Below w.heap.size w w4 := K3.trans (hb4'.mono (by omega))
    obtain ⟨a0, a1, a2, a3⟩ := pa4
    obtain ⟨b0, b1, b2, b3⟩ := pb4
    have l1 : w.heap.size < w4.heap.size := by omega
    have l2 : w.heap.size + 1 < w4.heap.size := by omega
    clear hb4 hb4'
    go_wp2_with fail
    refine (H5.out _).mono ?_
    rintro e w5 ⟨rfl, hb5⟩
    clear a0 a1 a2 a3 b0 b1 b2 b3 l1 l2
    have s5 : w4.heap.size + 1 ≤ w5.heap.size := by have := hb5.size; simpa using this
    have pp5 := (PixAt.new w4 o1 o2 o3 o4 34).on hb5 (by simp)
    have K5 : Below w.heap.size w w5 := (K4.alloc K4.size _).trans (hb5.mono (by simp; omega))
    obtain ⟨a0, a1, a2, a3⟩ := pp5
    have l1 : w4.heap.size < w5.heap.size := by omega
    clear hb5
    go_wp2_with fail
    go_ret
    exact ⟨rfl, K5.alloc K5.size _⟩
  · have hqa : ((0 : Int) != a') = true := by rw [bne_iff_ne]; exact hab
    clear hm hab
    go_wp2_with fail
    go_ret
    exact ⟨rfl, K3.alloc K3.size _⟩
theorem pixelStill_any (m : Int) (r g b a r' g' b' a' : Int) (w : World) (hp : (P4.mk r g b a).Ok) (hq : (P4.mk r' g' b' a').Ok) :
    Calls Tryd.prog 5 #[.int .i64 m, .agg #[.int .u8 r, .int .u8 g, .int .u8 b, .int .u8 a], .agg #[.int .u8 r', .int .u8 g', .int .u8 b', .int .u8 a']] w fun e w' => e = .returned (.bool true) ∧ Below w.heap.size w w' := by
  by_cases hm : m < 0 ∨ 5 < m
  · exact still_mode m r g b a r' g' b' a' w hm
  by_cases ha : a = 0
  · subst ha; exact still_nil m r g b r' g' b' a' w (by omega) hp hq
  · exact still_yes m r g b a r' g' b' a' w (by omega) hp hq (by rw [beq_eq_false_iff_ne]; exact ha)
theorem covers_mode (m n r g b a r' g' b' a' : Int) (w : World) (h : m < 0 ∨ 5 < m ∨ n < 0 ∨ 5 < n) :
    Calls Tryd.prog 6 #[.int .i64 m, .int .i64 n, .agg #[.int .u8 r, .int .u8 g, .int .u8 b, .int .u8 a], .agg #[.int .u8 r', .int .u8 g', .int .u8 b', .int .u8 a']] w fun e w' => e = .returned (.bool true) ∧ Below w.heap.size w w' := by
  by_cases h1 : m < 0
  · go_enter Tryd.func6, Tryd.ntmps6
    go_wp2_with (go_at_call 19; refine (half_any _).mono ?_; rintro e w' ⟨rfl, hx⟩)
    go_ret
    exact ⟨rfl, (((Below.refl _ _).alloc (Nat.le_refl _) _).alloc (by simp) _).trans (Below.mono hx (by simp; omega))⟩
  by_cases h2 : 5 < m
  · go_enter Tryd.func6, Tryd.ntmps6
    go_wp2_with (go_at_call 19; refine (half_any _).mono ?_; rintro e w' ⟨rfl, hx⟩)
    go_ret
    exact ⟨rfl, (((Below.refl _ _).alloc (Nat.le_refl _) _).alloc (by simp) _).trans (Below.mono hx (by simp; omega))⟩
  by_cases h3 : n < 0
  · go_enter Tryd.func6, Tryd.ntmps6
    go_wp2_with (go_at_call 19; refine (half_any _).mono ?_; rintro e w' ⟨rfl, hx⟩)
    go_ret
    exact ⟨rfl, (((Below.refl _ _).alloc (Nat.le_refl _) _).alloc (by simp) _).trans (Below.mono hx (by simp; omega))⟩
  have h4 : 5 < n := by omega
  go_enter Tryd.func6, Tryd.ntmps6
  go_wp2_with (go_at_call 19; refine (half_any _).mono ?_; rintro e w' ⟨rfl, hx⟩)
  go_ret
  exact ⟨rfl, (((Below.refl _ _).alloc (Nat.le_refl _) _).alloc (by simp) _).trans (Below.mono hx (by simp; omega))⟩
set_option maxRecDepth 100000 in
set_option maxHeartbeats 1000000 in
theorem covers_in (m n r g b a r' g' b' a' : Int) (w : World) (hm : 0 ≤ m ∧ m < 6) (hn : 0 ≤ n ∧ n < 6) (hp : (P4.mk r g b a).Ok) (hq : (P4.mk r' g' b' a').Ok) :
    Calls Tryd.prog 6 #[.int .i64 m, .int .i64 n, .agg #[.int .u8 r, .int .u8 g, .int .u8 b, .int .u8 a], .agg #[.int .u8 r', .int .u8 g', .int .u8 b', .int .u8 a']] w fun e w' => e = .returned (.bool true) ∧ Below w.heap.size w w' := by
  obtain ⟨t1, t2, t3⟩ := P4.over_alpha m n _ _ hp hq
  have H4 := Lib.hid fun W => over_walk m r g b a r' g' b' a' (P4.over m ⟨r, g, b, a⟩ ⟨r', g', b', a'⟩) W hm hp hq rfl
  have H5 := Lib.hid fun W => over_walk n r' g' b' a' r g b a (P4.over n ⟨r', g', b', a'⟩ ⟨r, g, b, a⟩) W hn hq hp rfl
  generalize P4.over m ⟨r, g, b, a⟩ ⟨r', g', b', a'⟩ = o at *
  generalize P4.over n ⟨r', g', b', a'⟩ ⟨r, g, b, a⟩ = u at *
  obtain ⟨o1, o2, o3, o4⟩ := o
  obtain ⟨u1, u2, u3, u4⟩ := u
  simp only at H4 H5 t1 t2 t3
  have hqa : ((o4 : Int) == u4) = true := by rw [beq_iff_eq]; exact t1
  clear t1
  obtain ⟨hm0, hm1⟩ := hm
  obtain ⟨hn0, hn1⟩ := hn
  go_enter Tryd.func6, Tryd.ntmps6
  go_wp2_with fail
  refine (half_any _).mono ?_
  rintro e w0 ⟨rfl, hb0⟩
  have s0 : w.heap.size + 2 ≤ w0.heap.size := by have := Below.size hb0; simpa using this
  have pa0 := ((PixAt.new w r g b a 34).old (by simp <;> omega) (.cells #[.int .u8 r', .int .u8 g', .int .u8 b', .int .u8 a'] 34)).on hb0 (by simp <;> omega)
  have pb0 := (PixAt.new (w.alloc (.cells #[.int .u8 r, .int .u8 g, .int .u8 b, .int .u8 a] 34)) r' g' b' a' 34).on hb0 (by simp <;> omega)
  rw [World.size_alloc] at pb0
  have PA0 := Lib.hid pa0
  have PB0 := Lib.hid pb0
  have K0 : Below w.heap.size w w0 := (((Below.refl _ _).alloc (Nat.le_refl _) _).alloc (by simp) _).trans (Below.mono hb0 (by simp; omega))
  obtain ⟨a0, a1, a2, a3⟩ := pa0
  obtain ⟨b0, b1, b2, b3⟩ := pb0
  clear hb0
  go_wp2_with fail
  refine (H4.out _).mono ?_
  rintro e w1 ⟨rfl, hb1⟩
  clear a0 a1 a2 a3 b0 b1 b2 b3
  have s1 : w0.heap.size ≤ w1.heap.size := hb1.size
  have pa1 := PA0.out.on hb1 (by omega)
  have pb1 := PB0.out.on hb1 (by omega)
  have PA1 := Lib.hid pa1
  have PB1 := Lib.hid pb1
  have K1 : Below w.heap.size w w1 := K0.trans (hb1.mono (by omega))
  obtain ⟨a0, a1, a2, a3⟩ := pa1
  obtain ⟨b0, b1, b2, b3⟩ := pb1
  have l1 : w.heap.size < w1.heap.size := by omega
  have l2 : w.heap.size + 1 < w1.heap.size := by omega
  clear hb1
  go_wp2_with fail
  refine (H5.out _).mono ?_
  rintro e w2 ⟨rfl, hb2⟩
  clear a0 a1 a2 a3 b0 b1 b2 b3 l1 l2
  have s2 : w1.heap.size + 1 ≤ w2.heap.size := by have := hb2.size; simpa using this
  have hb2' : Below w1.heap.size w1 w2 := ((Below.refl _ _).alloc (Nat.le_refl _) _).trans (hb2.mono (by simp))
  have pa2 := PA1.out.on hb2' (by omega)
  have pb2 := PB1.out.on hb2' (by omega)
  have px2 := (PixAt.new w1 o1 o2 o3 o4 34).on hb2 (by simp)
  have K2 : Below w.heap.size w w2 := K1.trans (hb2'.mono (by omega))
  obtain ⟨a0, a1, a2, a3⟩ := pa2
  obtain ⟨b0, b1, b2, b3⟩ := pb2
  obtain ⟨x0, x1, x2, x3⟩ := px2
  have l1 : w.heap.size < w2.heap.size := by omega
  have l2 : w.heap.size + 1 < w2.heap.size := by omega
  have l3 : w1.heap.size < w2.heap.size := by omega
  clear hb2 hb2'
  go_wp2_with fail
  go_ret
  exact ⟨rfl, K2.alloc K2.size _⟩
theorem pixelCovers_any (m n : Int) (r g b a r' g' b' a' : Int) (w : World) (hp : (P4.mk r g b a).Ok) (hq : (P4.mk r' g' b' a').Ok) :
    Calls Tryd.prog 6 #[.int .i64 m, .int .i64 n, .agg #[.int .u8 r, .int .u8 g, .int .u8 b, .int .u8 a], .agg #[.int .u8 r', .int .u8 g', .int .u8 b', .int .u8 a']] w fun e w' => e = .returned (.bool true) ∧ Below w.heap.size w w' := by
  by_cases hm : m < 0 ∨ 5 < m ∨ n < 0 ∨ 5 < n
  · exact covers_mode m n r g b a r' g' b' a' w hm
  · exact covers_in m n r g b a r' g' b' a' w (by omega) (by omega) hp hq
end Go.Proofs.YteacjlalekbhpaaDoor
