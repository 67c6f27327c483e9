/- PixelOver's walk. -/
import Derived.Test.YteacjlalekbhpaaDoorPixOverOf
import Derived.Test.YteacjlalekbhpaaDoorPixLaws
import Derived.Test.YteacjlalekbhpaaDoorCoded2
import Derived.Deep.RegionWith
namespace Go.Proofs.YteacjlalekbhpaaDoor
open Go.RowKit
set_option maxRecDepth 100000
theorem over_bad (m r g b a r' g' b' a' : Int) (w : World) (E : Nat → Addr) (hE : Errs w E) (h : ¬ (0 ≤ m ∧ m < 6)) :
    Calls Tryd.prog 20 #[.int .i64 m, pixv r g b a, pixv r' g' b' a'] w fun e w' => e = .returned (.tuple #[pixv 0 0 0 0, sentV (E 1)]) ∧ Ext w w' := by
  have c1 := (hE.ext ((((Ext.refl w).alloc (.cells #[.int .u8 r, .int .u8 g, .int .u8 b, .int .u8 a] 34)).alloc (.cells #[.int .u8 r', .int .u8 g', .int .u8 b', .int .u8 a'] 34)).alloc (.cells #[.int .u8 0, .int .u8 0, .int .u8 0, .int .u8 0] 34))).var 1 (by decide)
  have t1 : (decide (0 ≤ m) && decide (m < 6)) = false := by simp; omega
  simp only [gk, sentV] at c1
  go_enter Tryd.func20, Tryd.ntmps20
  go_wp2_with fail
  refine (mode_any _ _).mono ?_
  rintro e w1 ⟨rfl, rfl⟩
  rw [t1]
  go_wp2_with fail
  go_region
  all_goals
    go_wp2_with fail
    refine bodyPost_ret (v := .tuple #[pixv 0 0 0 0, sentV (E 1)]) (by simp [results, Tryd.results20, go_sem, *, sentV]) rfl ⟨rfl, ?_⟩
    repeat (first | exact Ext.refl _ | refine Ext.alloc ?_ _ | refine Below.setCell ?_ (by simp <;> omega) _ | apply Below.drew | refine Ext.drewN ?_ _)
theorem po_bad (m r g b a r' g' b' a' : Int) (w : World) (E : Nat → Addr) (hE : Errs w E) (h : ¬ (0 ≤ m ∧ m < 6)) :
    Calls Tryd.prog 7 #[.int .i64 m, pixv r g b a, pixv r' g' b' a'] w fun e w' => e = .returned (.bool true) ∧ Ext w w' := by
  have HE := Lib.hid hE
  have HH := Lib.hid h
  have hd : decide (0 ≤ m ∧ m < 6) = false := decide_eq_false h
  clear hE h
  go_enter Tryd.func7, Tryd.ntmps7
  go_wp2_with fail
  refine (half_any _).mono ?_
  rintro e w1 ⟨rfl, h1⟩
  have b1 := h1.cell (p := ⟨w.heap.size, 0, none⟩) (by simp; omega)
  have X1 : Hid (Ext w w1) := Lib.hid ((((Ext.refl w).alloc _).alloc _).trans h1)
  have hc1 := fun b o => h1.cell (p := ⟨b, o, none⟩)
  have p0 : w1.cell? ⟨w.heap.size, 0, none⟩ = some (.int .u8 r) := (hc1 _ _ (by simp; omega)).trans (by simp)
  have p1 : w1.cell? ⟨w.heap.size, 1, none⟩ = some (.int .u8 g) := (hc1 _ _ (by simp; omega)).trans (by simp)
  have p2 : w1.cell? ⟨w.heap.size, 2, none⟩ = some (.int .u8 b) := (hc1 _ _ (by simp; omega)).trans (by simp)
  have p3 : w1.cell? ⟨w.heap.size, 3, none⟩ = some (.int .u8 a) := (hc1 _ _ (by simp; omega)).trans (by simp)
  have q0 : w1.cell? ⟨w.heap.size + 1, 0, none⟩ = some (.int .u8 r') := (hc1 _ _ (by simp)).trans (by simp)
  have q1 : w1.cell? ⟨w.heap.size + 1, 1, none⟩ = some (.int .u8 g') := (hc1 _ _ (by simp)).trans (by simp)
  have q2 : w1.cell? ⟨w.heap.size + 1, 2, none⟩ = some (.int .u8 b') := (hc1 _ _ (by simp)).trans (by simp)
  have q3 : w1.cell? ⟨w.heap.size + 1, 3, none⟩ = some (.int .u8 a') := (hc1 _ _ (by simp)).trans (by simp)
  clear hc1 h1 b1
  go_wp2_with fail
  refine (over_bad m r g b a r' g' b' a' _ E (HE.out.ext X1.out) HH.out).mono ?_
  rintro e w2 ⟨rfl, h2⟩
  have X2 := Lib.hid (X1.out.trans h2)
  clear p0 p1 p2 p3 q0 q1 q2 q3 h2
  go_wp2_with fail
  refine (isMode_any _ _).mono ?_
  rintro e w3 ⟨he, rfl⟩
  rw [hd] at he
  subst he
  go_wp2_with fail
  have X3 := X2.out.alloc (.cells #[.int .u8 0, .int .u8 0, .int .u8 0, .int .u8 0] 34)
  refine (coded_any _ E (HE.out.ext X3) _ 2 (-1) 2 (.sent 1 (by decide))).mono ?_
  rintro e w4 ⟨he, h4⟩
  have he2 : e = .returned (.bool true) := by rw [he]; exact ret_bool (by decide)
  subst he2
  clear he
  have hc1 := fun b o => h4.cell (p := ⟨b, o, none⟩)
  have p0 : w4.cell? ⟨w2.heap.size, 0, none⟩ = some (.int .u8 0) := (hc1 _ _ (by simp)).trans (by simp)
  have p1 : w4.cell? ⟨w2.heap.size, 1, none⟩ = some (.int .u8 0) := (hc1 _ _ (by simp)).trans (by simp)
  have p2 : w4.cell? ⟨w2.heap.size, 2, none⟩ = some (.int .u8 0) := (hc1 _ _ (by simp)).trans (by simp)
  have p3 : w4.cell? ⟨w2.heap.size, 3, none⟩ = some (.int .u8 0) := (hc1 _ _ (by simp)).trans (by simp)
  have X4 := Lib.hid (X3.trans h4)
  clear hc1 h4 X3
  go_wp2_with fail
  go_ret
  exact ⟨rfl, X4.out⟩
set_option maxHeartbeats 4000000 in
theorem po_good (m r g b a r' g' b' a' : Int) (o : P4) (w : World) (hm : 0 ≤ m ∧ m < 6) (hp : (P4.mk r g b a).Ok) (hq : (P4.mk r' g' b' a').Ok) (ho : P4.over m ⟨r, g, b, a⟩ ⟨r', g', b', a'⟩ = o) :
    Calls Tryd.prog 7 #[.int .i64 m, pixv r g b a, pixv r' g' b' a'] w fun e w' => e = .returned (.bool true) ∧ Ext w w' := by
  have HO : Hid (∀ W, Calls Tryd.prog 23 #[.int .i64 m, pixv r g b a, pixv r' g' b' a'] W fun e w' => e = .returned (pixv o.r o.g o.b o.a) ∧ Ext W w') := Lib.hid (fun W => by
    have q := overOf_any m ⟨r, g, b, a⟩ ⟨r', g', b', a'⟩ W hm hp hq
    rw [ho] at q; exact q)
  have HP := Lib.hid fun W => over_walk m r g b a r' g' b' a' o W hm hp hq ho
  have hd : decide (0 ≤ m ∧ m < 6) = true := decide_eq_true hm
  clear hp hq ho hm
  go_enter Tryd.func7, Tryd.ntmps7
  go_wp2_with fail
  refine (half_any _).mono ?_
  rintro e w1 ⟨rfl, h1⟩
  have X1 : Hid (Ext w w1) := Lib.hid ((((Ext.refl w).alloc _).alloc _).trans h1)
  have hc1 := fun b o => h1.cell (p := ⟨b, o, none⟩)
  have p0 : w1.cell? ⟨w.heap.size, 0, none⟩ = some (.int .u8 r) := (hc1 _ _ (by simp; omega)).trans (by simp)
  have p1 : w1.cell? ⟨w.heap.size, 1, none⟩ = some (.int .u8 g) := (hc1 _ _ (by simp; omega)).trans (by simp)
  have p2 : w1.cell? ⟨w.heap.size, 2, none⟩ = some (.int .u8 b) := (hc1 _ _ (by simp; omega)).trans (by simp)
  have p3 : w1.cell? ⟨w.heap.size, 3, none⟩ = some (.int .u8 a) := (hc1 _ _ (by simp; omega)).trans (by simp)
  have q0 : w1.cell? ⟨w.heap.size + 1, 0, none⟩ = some (.int .u8 r') := (hc1 _ _ (by simp)).trans (by simp)
  have q1 : w1.cell? ⟨w.heap.size + 1, 1, none⟩ = some (.int .u8 g') := (hc1 _ _ (by simp)).trans (by simp)
  have q2 : w1.cell? ⟨w.heap.size + 1, 2, none⟩ = some (.int .u8 b') := (hc1 _ _ (by simp)).trans (by simp)
  have q3 : w1.cell? ⟨w.heap.size + 1, 3, none⟩ = some (.int .u8 a') := (hc1 _ _ (by simp)).trans (by simp)
  have hz1 : w.heap.size + 1 < w1.heap.size := by have := h1.size; simp at this; omega
  clear hc1 h1
  have HPC : Hid (w1.cell? ⟨w.heap.size, 0, none⟩ = some (.int .u8 r) ∧ w1.cell? ⟨w.heap.size, 1, none⟩ = some (.int .u8 g) ∧ w1.cell? ⟨w.heap.size, 2, none⟩ = some (.int .u8 b) ∧ w1.cell? ⟨w.heap.size, 3, none⟩ = some (.int .u8 a) ∧ w1.cell? ⟨w.heap.size + 1, 0, none⟩ = some (.int .u8 r') ∧ w1.cell? ⟨w.heap.size + 1, 1, none⟩ = some (.int .u8 g') ∧ w1.cell? ⟨w.heap.size + 1, 2, none⟩ = some (.int .u8 b') ∧ w1.cell? ⟨w.heap.size + 1, 3, none⟩ = some (.int .u8 a')) := ⟨p0, p1, p2, p3, q0, q1, q2, q3⟩
  go_wp2_with fail
  refine (HP.out _).mono ?_
  rintro e w2 ⟨rfl, h2⟩
  have X2 := Lib.hid (X1.out.trans h2)
  have H2 := Lib.hid h2
  clear p0 p1 p2 p3 q0 q1 q2 q3 h2
  go_wp2_with fail
  refine (isMode_any _ _).mono ?_
  rintro e w3 ⟨he, rfl⟩
  rw [hd] at he
  subst he
  go_wp2_with fail
  have h3 : Ext w1 (w2.alloc (.cells #[.int .u8 o.r, .int .u8 o.g, .int .u8 o.b, .int .u8 o.a] 34)) := Ext.alloc H2.out _
  obtain ⟨p0, p1, p2, p3, q0, q1, q2, q3⟩ := HPC.out
  have hsz2 : w1.heap.size ≤ w2.heap.size := H2.out.size
  refine wp_world (fun wz => Ext w wz ∧ w2.heap.size < wz.heap.size ∧ wz.cell? ⟨w.heap.size, 0, none⟩ = some (.int .u8 r) ∧ wz.cell? ⟨w.heap.size, 1, none⟩ = some (.int .u8 g) ∧ wz.cell? ⟨w.heap.size, 2, none⟩ = some (.int .u8 b) ∧ wz.cell? ⟨w.heap.size, 3, none⟩ = some (.int .u8 a) ∧ wz.cell? ⟨w.heap.size + 1, 0, none⟩ = some (.int .u8 r') ∧ wz.cell? ⟨w.heap.size + 1, 1, none⟩ = some (.int .u8 g') ∧ wz.cell? ⟨w.heap.size + 1, 2, none⟩ = some (.int .u8 b') ∧ wz.cell? ⟨w.heap.size + 1, 3, none⟩ = some (.int .u8 a')
    ∧ wz.cell? ⟨w2.heap.size, 0, none⟩ = some (.int .u8 o.r) ∧ wz.cell? ⟨w2.heap.size, 1, none⟩ = some (.int .u8 o.g) ∧ wz.cell? ⟨w2.heap.size, 2, none⟩ = some (.int .u8 o.b) ∧ wz.cell? ⟨w2.heap.size, 3, none⟩ = some (.int .u8 o.a)) ?_ ?_
  · refine ⟨X1.out.trans h3, by simp, (h3.cell (by simp; omega)).trans p0, (h3.cell (by simp; omega)).trans p1, (h3.cell (by simp; omega)).trans p2, (h3.cell (by simp; omega)).trans p3, (h3.cell (by simp; omega)).trans q0, (h3.cell (by simp; omega)).trans q1, (h3.cell (by simp; omega)).trans q2, (h3.cell (by simp; omega)).trans q3, by simp, by simp, by simp, by simp⟩
  clear p0 p1 p2 p3 q0 q1 q2 q3 h3 HPC
  rintro wz ⟨hX, hsz, hP⟩
  have HX := Lib.hid hX
  clear hX
  obtain ⟨p0, p1, p2, p3, q0, q1, q2, q3, r0, r1, r2, r3⟩ := hP
  have hB0 : w.heap.size + 1 < wz.heap.size := by omega
  have hB1 : w.heap.size < wz.heap.size := by omega
  go_region_held3 (fun w' => Ext wz w' ∧ w'.cell? ⟨w.heap.size, 0, none⟩ = some (.int .u8 r) ∧ w'.cell? ⟨w.heap.size, 1, none⟩ = some (.int .u8 g) ∧ w'.cell? ⟨w.heap.size, 2, none⟩ = some (.int .u8 b) ∧ w'.cell? ⟨w.heap.size, 3, none⟩ = some (.int .u8 a) ∧ w'.cell? ⟨w.heap.size + 1, 0, none⟩ = some (.int .u8 r') ∧ w'.cell? ⟨w.heap.size + 1, 1, none⟩ = some (.int .u8 g') ∧ w'.cell? ⟨w.heap.size + 1, 2, none⟩ = some (.int .u8 b') ∧ w'.cell? ⟨w.heap.size + 1, 3, none⟩ = some (.int .u8 a') ∧ w'.cell? ⟨w2.heap.size, 0, none⟩ = some (.int .u8 o.r) ∧ w'.cell? ⟨w2.heap.size, 1, none⟩ = some (.int .u8 o.g) ∧ w'.cell? ⟨w2.heap.size, 2, none⟩ = some (.int .u8 o.b) ∧ w'.cell? ⟨w2.heap.size, 3, none⟩ = some (.int .u8 o.a)) (first | exact ⟨Below.drew (Ext.refl wz), p0, p1, p2, p3, q0, q1, q2, q3, r0, r1, r2, r3⟩ | go_keep | (refine ⟨Ext.trans (by first | assumption | exact Below.drew (Ext.refl _) | exact Ext.refl _) hx, ?_, ?_, ?_, ?_, ?_, ?_, ?_, ?_, ?_, ?_, ?_, ?_⟩ <;> (refine (hx.cell (by have := (show Ext wz _ from by first | assumption | exact Below.drew (Ext.refl _) | exact Ext.refl _).size; simp; omega)).trans ?_; assumption)))
    ((go_at_call 23; refine (HO.out _).mono ?_; rintro e w' ⟨rfl, hx⟩))
  all_goals
    go_wp2_with fail
    go_ret
    rename_i hS
    exact ⟨rfl, HX.out.trans hS.1⟩
theorem pixelOver_any (m r g b a r' g' b' a' : Int) (w : World) (E : Nat → Addr) (hE : Errs w E) (hp : (P4.mk r g b a).Ok) (hq : (P4.mk r' g' b' a').Ok) :
    Calls Tryd.prog 7 #[.int .i64 m, .agg #[.int .u8 r, .int .u8 g, .int .u8 b, .int .u8 a], .agg #[.int .u8 r', .int .u8 g', .int .u8 b', .int .u8 a']] w fun e w' => e = .returned (.bool true) ∧ Ext w w' := by
  by_cases h : 0 ≤ m ∧ m < 6
  · exact po_good m r g b a r' g' b' a' _ w h hp hq rfl
  · exact po_bad m r g b a r' g' b' a' w E hE h
end Go.Proofs.YteacjlalekbhpaaDoor
