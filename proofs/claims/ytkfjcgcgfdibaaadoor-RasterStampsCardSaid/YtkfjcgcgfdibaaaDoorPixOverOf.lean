/- Contract of the document's answer for one pixel over another one: OverOf. -/
import Derived.Test.YtkfjcgcgfdibaaaDoorPixRef
import Derived.StillTailTactics
import Derived.Deep.OwnRows
import Derived.Outline
namespace Go.Proofs.YtkfjcgcgfdibaaaDoor
open Go.RowKit
set_option maxRecDepth 100000
theorem overOf_none (m r g b r' g' b' : Int) (w : World) :
    Calls Tryd.prog 73 #[.int .i64 m, pixv r g b 0, pixv r' g' b' 0] w fun e w' => e = .returned (pixv 0 0 0 0) ∧ Ext w w' := by
  go_enter Tryd.func73, Tryd.ntmps73
  go_wp2
  refine bodyPost_ret (v := pixv 0 0 0 0) (by simp [results, Tryd.results73, go_sem, *]) rfl ⟨rfl, ?_⟩
  repeat (first | exact Ext.refl _ | refine Ext.alloc ?_ _ | refine Below.setCell ?_ (by simp <;> omega) _ | apply below_drewN)
theorem u8info3 : (Tryd.prog.info? 5).map (fun i => (i.zero, i.size, i.bytes)) = some (some (.int .u8 0), 1, 1) := by kernel_rfl
theorem make3 (w : World) : (Instr.makeSlice 76 (.int .i64 3) (.int .i64 3)).run Tryd.prog w = .ok (.slice (some ⟨w.heap.size, 0, none⟩) 3 3) (w.alloc (.cells #[.int .u8 0, .int .u8 0, .int .u8 0] 5)) := by
  have e : madeCells #[Value.int .u8 0] 3 = #[.int .u8 0, .int .u8 0, .int .u8 0] := by kernel_rfl
  have h := run_make_row' (P := Tryd.prog) 76 5 (.int .u8 0) 1 Tryd.underlying76 u8info3 rfl .i64 .i64 3 (by decide) (by decide) w
  rw [e] at h
  exact h
theorem still_ov {P : Program} {f : Nat} {args : Array Value} {w : World} {v : Value} (h : Calls P f args w fun e w' => e = .returned v ∧ w = w') : Calls P f args w fun e w' => e = .returned v ∧ w' = w :=
  h.mono fun _ _ ⟨a, b⟩ => ⟨a, b.symm⟩
theorem num_ref (m a a' s d : Int) : 255 * a * (255 - a') * s + 255 * a' * (255 - a) * d + a * a' * Pix.blend m s d = Pix.num m a a' s d := by
  unfold Pix.num
  rw [Int.mul_add, show (255 : Int) * (a * (255 - a') * s) = 255 * a * (255 - a') * s by rw [← Int.mul_assoc, ← Int.mul_assoc], show (255 : Int) * (a' * (255 - a) * d) = 255 * a' * (255 - a) * d by rw [← Int.mul_assoc, ← Int.mul_assoc]]
set_option maxHeartbeats 4000000 in
theorem overOf_some (m r g b a r' g' b' a' : Int) (w : World) (hm : 0 ≤ m ∧ m < 6) (hr : Pix.Byte r) (hg : Pix.Byte g) (hb : Pix.Byte b) (ha : Pix.Byte a) (hr' : Pix.Byte r') (hg' : Pix.Byte g') (hb' : Pix.Byte b') (ha' : Pix.Byte a') (hc : 1 ≤ Pix.covers a a') :
    Calls Tryd.prog 73 #[.int .i64 m, pixv r g b a, pixv r' g' b' a'] w fun e w' => e = .returned (pixv (Pix.color m a a' r r') (Pix.color m a a' g g') (Pix.color m a a' b b') (Pix.rnd (Pix.covers a a') 255)) ∧ Ext w w' := by
  have hcov : 255 * a + 255 * a' - a * a' = Pix.covers a a' := by unfold Pix.covers; rw [Int.mul_sub, Int.mul_comm a' a, Int.mul_comm a' 255]; omega
  have hcv := Pix.covers_bd ha ha'
  have hbl1 := Pix.blend_bd (m := m) hr hr'
  have hbl2 := Pix.blend_bd (m := m) hg hg'
  have hbl3 := Pix.blend_bd (m := m) hb hb'
  have HN1 := Lib.hid (num_ref m a a' r r')
  have HN2 := Lib.hid (num_ref m a a' g g')
  have HN3 := Lib.hid (num_ref m a a' b b')
  have hn1 := Pix.num_bd (m := m) ha ha' hr hr'
  have hn2 := Pix.num_bd (m := m) ha ha' hg hg'
  have hn3 := Pix.num_bd (m := m) ha ha' hb hb'
  have B1 := Lib.hid fun W => refBlend_any m r r' W hm hr hr'
  have B2 := Lib.hid fun W => refBlend_any m g g' W hm hg hg'
  have B3 := Lib.hid fun W => refBlend_any m b b' W hm hb hb'
  obtain ⟨r0, r1⟩ := hr
  obtain ⟨g0, g1⟩ := hg
  obtain ⟨b0, b1⟩ := hb
  obtain ⟨a0, a1⟩ := ha
  obtain ⟨r0', r1'⟩ := hr'
  obtain ⟨g0', g1'⟩ := hg'
  obtain ⟨b0', b1'⟩ := hb'
  obtain ⟨a0', a1'⟩ := ha'
  have p0 := Pix.mul_bd a0 a1 a0' a1'
  have p1 := Pix.mul_bd (show 0 ≤ 255 * a by omega) (show 255 * a ≤ 255 * 255 by omega) (show 0 ≤ 255 - a' by omega) (show 255 - a' ≤ 255 by omega)
  have p2 := Pix.mul_bd (show 0 ≤ 255 * a' by omega) (show 255 * a' ≤ 255 * 255 by omega) (show 0 ≤ 255 - a by omega) (show 255 - a ≤ 255 by omega)
  have q1 := Pix.mul_bd p1.1 p1.2 r0 r1
  have q2 := Pix.mul_bd p1.1 p1.2 g0 g1
  have q3 := Pix.mul_bd p1.1 p1.2 b0 b1
  have q4 := Pix.mul_bd p2.1 p2.2 r0' r1'
  have q5 := Pix.mul_bd p2.1 p2.2 g0' g1'
  have q6 := Pix.mul_bd p2.1 p2.2 b0' b1'
  have q7 := Pix.mul_bd p0.1 p0.2 hbl1.1 hbl1.2
  have q8 := Pix.mul_bd p0.1 p0.2 hbl2.1 hbl2.2
  have q9 := Pix.mul_bd p0.1 p0.2 hbl3.1 hbl3.2
  have HCOV := Lib.hid hcov
  have t0 : (255 * a + 255 * a' - a * a' == 0) = false := by rw [hcov]; exact beq_eq_false_iff_ne.2 (by omega)
  have HC := Lib.hid hc
  have hmk := make3
  clear hcov
  go_enter Tryd.func73, Tryd.ntmps73
  go_wp2_with fail
  rw [HCOV.out]
  refine wp_loop_rounds 4 ?_
  rw [rounds_succ]
  go_wp2_with fail
  go_quiet ((go_at_call 102; exact (B1.out _).mono fun _ _ ⟨he, hm⟩ => ⟨he, _, hm.symm⟩))
  rw [HN1.out]
  go_wp2_with (go_at_call 103; refine (rounded_any _ _ _ (by omega) (by omega) (by omega) (by omega)).mono ?_; rintro e w' ⟨rfl, rfl⟩)
  rw [rounds_succ]
  go_wp2_with fail
  go_quiet ((go_at_call 102; exact (B2.out _).mono fun _ _ ⟨he, hm⟩ => ⟨he, _, hm.symm⟩))
  rw [HN2.out]
  go_wp2_with (go_at_call 103; refine (rounded_any _ _ _ (by omega) (by omega) (by omega) (by omega)).mono ?_; rintro e w' ⟨rfl, rfl⟩)
  rw [rounds_succ]
  go_wp2_with fail
  go_quiet ((go_at_call 102; exact (B3.out _).mono fun _ _ ⟨he, hm⟩ => ⟨he, _, hm.symm⟩))
  rw [HN3.out]
  go_wp2_with (go_at_call 103; refine (rounded_any _ _ _ (by omega) (by omega) (by omega) (by omega)).mono ?_; rintro e w' ⟨rfl, rfl⟩)
  rw [rounds_succ]
  go_wp2_with fail
  refine wp_world (fun wz => Ext w wz ∧ w.heap.size + 6 ≤ wz.heap.size ∧ wz.cell? ⟨w.heap.size + 1 + 1 + 1 + 1 + 1, 0, none⟩ = some (.int .u8 (Pix.color m a a' r r')) ∧ wz.cell? ⟨w.heap.size + 1 + 1 + 1 + 1 + 1, 1, none⟩ = some (.int .u8 (Pix.color m a a' g g')) ∧ wz.cell? ⟨w.heap.size + 1 + 1 + 1 + 1 + 1, 2, none⟩ = some (.int .u8 (Pix.color m a a' b b')) ∧ (∀ j, j < 4 → wz.cell? ⟨w.heap.size + 1 + 1, j, none⟩ = some (.int .u8 0) ∧ wz.frozen? ⟨w.heap.size + 1 + 1, j, none⟩ = false)) ?_ ?_
  · refine ⟨?_, ?_, ?_, ?_, ?_, ?_⟩
    · repeat (first | exact Ext.refl _ | refine Ext.alloc ?_ _ | refine Below.setCell ?_ (by simp <;> omega) _ | refine Ext.drewN ?_ _)
    · simp
    · go_simp; rfl
    · go_simp; rfl
    · go_simp; rfl
    · intro j hj
      match j, hj with
      | 0, _ => go_simp
      | 1, _ => go_simp
      | 2, _ => go_simp
      | 3, _ => go_simp
  rintro wz ⟨hE, hsz, c0, c1, c2, hres⟩
  obtain ⟨d0, z0⟩ := hres 0 (by decide)
  obtain ⟨d1, z1⟩ := hres 1 (by decide)
  obtain ⟨d2, z2⟩ := hres 2 (by decide)
  obtain ⟨d3, z3⟩ := hres 3 (by decide)
  have HE := Lib.hid hE
  clear hE hres
  have HR := Lib.hid fun W => still_ov (rounded_any (Pix.covers a a') 255 W (by omega) (by omega) (by omega) (by omega))
  refine wp_region_still_tail 13 (by kernel_rfl) (by kernel_rfl) ?_
  simp only [List.take_succ_cons, List.take_zero, List.drop_succ_cons, List.drop_zero]
  repeat still_step
  still_call (HR.out _)
  repeat still_step
  refine wpStill_nil ?_
  change wpList _ _ _ _ _ wz.drew
  go_wp2_with fail
  have hrnd : (2 * Pix.covers a a' + 255) / 510 = Pix.rnd (Pix.covers a a') 255 := ((Pix.rnd_of_le (n := Pix.covers a a') (of := 255) (B := 255) (by omega) (by omega) (by omega) (by omega)).1).symm
  refine bodyPost_ret (v := pixv (Pix.color m a a' r r') (Pix.color m a a' g g') (Pix.color m a a' b b') (Pix.rnd (Pix.covers a a') 255)) (by simp [results, Tryd.results73, go_sem, *]) rfl ⟨rfl, ?_⟩
  repeat (first | exact HE.out | refine Below.setCell ?_ (by simp <;> omega) _ | refine Ext.drewN ?_ _ | exact Below.drew HE.out)
theorem overOf_any (m : Int) (p q : P4) (w : World) (hm : 0 ≤ m ∧ m < 6) (hp : p.Ok) (hq : q.Ok) :
    Calls Tryd.prog 73 #[.int .i64 m, p.val, q.val] w fun e w' => e = .returned (P4.over m p q).val ∧ Ext w w' := by
  by_cases hc : Pix.covers p.a q.a = 0
  · obtain ⟨e1, e2⟩ := covers_zero hp.a hq.a hc
    rw [P4.over_nought m p q e1 e2]
    obtain ⟨r, g, b, a⟩ := p
    obtain ⟨r', g', b', a'⟩ := q
    simp only at e1 e2
    subst e1 e2
    exact overOf_none m r g b r' g' b' w
  · have e3 : P4.over m p q = ⟨Pix.color m p.a q.a p.r q.r, Pix.color m p.a q.a p.g q.g, Pix.color m p.a q.a p.b q.b, Pix.rnd (Pix.covers p.a q.a) 255⟩ := by unfold P4.over; rw [if_neg hc]
    rw [e3]
    exact overOf_some m _ _ _ _ _ _ _ _ w hm hp.r hp.g hp.b hp.a hq.r hq.g hq.b hq.a (Pix.covers_pos hp.a hq.a hc)
end Go.Proofs.YtkfjcgcgfdibaaaDoor
