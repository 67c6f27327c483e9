/- raster.New, Flip: what they make. -/
import Derived.Test.YtkfjcgcgfdibaaaDoorPic2
namespace Go.Proofs.YtkfjcgcgfdibaaaDoor
open Go.RowKit
set_option maxRecDepth 100000
theorem new1_any (x y : Int) (r g b a : Int) (B : Nat) (w : World) (h0 : w.cell? ⟨B, 0, none⟩ = some (.int .u8 r)) (h1 : w.cell? ⟨B, 1, none⟩ = some (.int .u8 g)) (h2 : w.cell? ⟨B, 2, none⟩ = some (.int .u8 b)) (h3 : w.cell? ⟨B, 3, none⟩ = some (.int .u8 a)) :
    Calls Tryd.prog 61 #[.int .i64 x, .int .i64 y, .pointer (some ⟨B, 0, none⟩)] w fun e w' => e = .returned (.agg #[.int .u8 r, .int .u8 g, .int .u8 b, .int .u8 a]) ∧ Ext w w' := by
  have hlt : B < w.heap.size := World.block_lt_of_cell? w _ h0
  go_enter Tryd.func61, Tryd.ntmps61
  go_wp2_with fail
  exact bodyPost_ret (v := .agg #[.int .u8 r, .int .u8 g, .int .u8 b, .int .u8 a]) (by simp [results, Tryd.results61, go_sem]) rfl ⟨rfl, by repeat (first | exact Ext.refl _ | refine Ext.alloc ?_ _)⟩
theorem enters_new1 : ∀ (args : Array Value) (w : World), (callFunc 61 args).run Tryd.prog w = .ok (.enter 61 args) w := enters_fn Tryd.func61 (by kernel_rfl) rfl
theorem new_good (W H : Nat) (p : P4) (w : World) (hW : 1 ≤ W ∧ W ≤ 256) (hH : 1 ≤ H ∧ H ≤ 256) :
    Calls Tryd.prog 20 #[.int .i64 (W : Int), .int .i64 (H : Int), .agg #[.int .u8 p.r, .int .u8 p.g, .int .u8 p.b, .int .u8 p.a]] w fun e w' => (∃ v, e = .returned (.tuple #[.agg #[.int .i64 (W : Int), .int .i64 (H : Int), v], .nilIface]) ∧ w'.ownsRow w.heap.size 36 4 v (W * H) (pxV (W * H) (fun _ => p))) ∧ Ext w w' := by
  have t1 : sideB (W : Int) = true := decide_eq_true (by omega)
  have t2 : sideB (H : Int) = true := decide_eq_true (by omega)
  have HT := Lib.hid (And.intro t1 t2)
  clear t1 t2
  go_enter Tryd.func20, Tryd.ntmps20
  go_wp2_with fail
  refine (side_any _ _).mono ?_
  rintro e w2 ⟨rfl, rfl⟩
  rw [HT.out.1]
  go_wp2_with fail
  refine (side_any _ _).mono ?_
  rintro e w2 ⟨rfl, rfl⟩
  rw [HT.out.2]
  go_wp2_with fail
  have hc0 : ∀ j u, (#[Value.int .u8 p.r, .int .u8 p.g, .int .u8 p.b, .int .u8 p.a])[j]? = some u → (w.alloc (.cells #[.int .u8 p.r, .int .u8 p.g, .int .u8 p.b, .int .u8 p.a] 36)).cell? ⟨w.heap.size, j, none⟩ = some u := by
    intro j u h; rw [World.cell?_alloc_at _ _ _ _ rfl]; exact h
  have x1 : Ext (w.alloc (.cells #[.int .u8 p.r, .int .u8 p.g, .int .u8 p.b, .int .u8 p.a] 36)) ((w.alloc (.cells #[.int .u8 p.r, .int .u8 p.g, .int .u8 p.b, .int .u8 p.a] 36)).alloc (.cells #[.int .i64 0, .int .i64 0, .slice none 0 0] 24)) := (Ext.refl _).alloc _
  have P0 := PicAt.new (w.alloc (.cells #[.int .u8 p.r, .int .u8 p.g, .int .u8 p.b, .int .u8 p.a] 36)) 0 0 (.slice none 0 0) 24
  have s1 : (w.alloc (.cells #[.int .u8 p.r, .int .u8 p.g, .int .u8 p.b, .int .u8 p.a] 36)).heap.size = w.heap.size + 1 := World.size_alloc _ _
  have s2 : ((w.alloc (.cells #[.int .u8 p.r, .int .u8 p.g, .int .u8 p.b, .int .u8 p.a] 36)).alloc (.cells #[.int .i64 0, .int .i64 0, .slice none 0 0] 24)).heap.size = w.heap.size + 1 + 1 := by rw [World.size_alloc, World.size_alloc]
  have f0 : ∀ j, ((w.alloc (.cells #[.int .u8 p.r, .int .u8 p.g, .int .u8 p.b, .int .u8 p.a] 36)).alloc (.cells #[.int .i64 0, .int .i64 0, .slice none 0 0] 24)).frozen? ⟨w.heap.size + 1, j, none⟩ = false := fun j => World.frozen?_alloc_at _ _ _ _ s1.symm
  rw [s1] at P0
  have X0 : Ext w ((w.alloc (.cells #[.int .u8 p.r, .int .u8 p.g, .int .u8 p.b, .int .u8 p.a] 36)).alloc (.cells #[.int .i64 0, .int .i64 0, .slice none 0 0] 24)) := ((Ext.refl _).alloc _).alloc _
  have HCC := Lib.hid hc0
  have X1 := Lib.hid x1
  have PP := Lib.hid P0
  have FF := Lib.hid f0
  have XX := Lib.hid X0
  have SS := Lib.hid (And.intro s1 s2)
  clear hc0 x1 P0 f0 X0 s1 s2
  generalize w.alloc (.cells #[.int .u8 p.r, .int .u8 p.g, .int .u8 p.b, .int .u8 p.a] 36) = wa at *
  generalize wa.alloc (.cells #[.int .i64 0, .int .i64 0, .slice none 0 0] 24) = wb at *
  refine (each_any 61 #[.pointer (some ⟨w.heap.size, 0, none⟩)] W H (fun _ _ => p) wb (by omega) (by omega) enters_new1 (fun x y w1 h1 _ _ => new1_any _ _ p.r p.g p.b p.a w.heap.size w1 (((X1.out.trans h1).cell (p := ⟨w.heap.size, 0, none⟩) (by rw [SS.out.1]; exact Nat.lt_succ_self _)).trans (HCC.out 0 _ rfl)) (((X1.out.trans h1).cell (p := ⟨w.heap.size, 1, none⟩) (by rw [SS.out.1]; exact Nat.lt_succ_self _)).trans (HCC.out 1 _ rfl)) (((X1.out.trans h1).cell (p := ⟨w.heap.size, 2, none⟩) (by rw [SS.out.1]; exact Nat.lt_succ_self _)).trans (HCC.out 2 _ rfl)) (((X1.out.trans h1).cell (p := ⟨w.heap.size, 3, none⟩) (by rw [SS.out.1]; exact Nat.lt_succ_self _)).trans (HCC.out 3 _ rfl)))).mono ?_
  rintro e w3 ⟨⟨v, rfl, hown⟩, h3⟩
  have OWN := Lib.hid (hown)
  have X3 := Lib.hid (h3)
  clear h3 hown
  obtain ⟨x, c, rfl⟩ := own_slice OWN.out
  have P3 := PP.out.ext X3.out
  have d0 := P3.c0
  have d1 := P3.c1
  have d2 := P3.c2
  have hlt : w.heap.size + 1 < wb.heap.size := by rw [SS.out.2]; omega
  have e0 := (X3.out.frozen (p := ⟨w.heap.size + 1, 0, none⟩) hlt).trans (FF.out 0)
  have e1 := (X3.out.frozen (p := ⟨w.heap.size + 1, 1, none⟩) hlt).trans (FF.out 1)
  have e2 := (X3.out.frozen (p := ⟨w.heap.size + 1, 2, none⟩) hlt).trans (FF.out 2)
  have FR := Lib.hid (fill_res (W := (W : Int)) (H := (H : Int)) (XX.out.trans X3.out) (by omega : w.heap.size ≤ w.heap.size + 1) P3 OWN.out hlt)
  clear P3
  go_wp2_with fail
  obtain ⟨P, own, hX⟩ := FR.out
  have k0 := P.c0
  have k1 := P.c1
  have k2 := P.c2
  exact bodyPost_ret (v := .tuple #[.agg #[.int .i64 (W : Int), .int .i64 (H : Int), .slice x (W * H) c], .nilIface]) (by simp [results, Tryd.results20, go_sem, k0, k1, k2]) rfl ⟨⟨_, rfl, owns_based own (by omega)⟩, hX⟩
end Go.Proofs.YtkfjcgcgfdibaaaDoor
