/- raster.Flip; the closed fact. -/
import Derived.Test.YtkfjcgcgfdibaaaDoorFlip2
namespace Go.Proofs.YtkfjcgcgfdibaaaDoor
open Go.RowKit
set_option maxRecDepth 100000
def flipP (W H : Nat) (down : Bool) (px : Nat → P4) : Nat → P4 := lin W fun x y => px (if down then (H - 1 - y) * W + x else y * W + (W - 1 - x))
theorem flip_good (W H : Nat) (a : Addr) (c : Nat) (down : Bool) (px : Nat → P4) (w : World) (hr : rightB (W : Int) (H : Int) (W * H) = true) (hx : Pxs w (some a) (W * H) px) :
    Calls Tryd.prog 16 #[.agg #[.int .i64 (W : Int), .int .i64 (H : Int), .slice (some a) (W * H) c], .bool down] w fun e w' => (∃ v, e = .returned (.tuple #[.agg #[.int .i64 (W : Int), .int .i64 (H : Int), v], .nilIface]) ∧ w'.ownsRow w.heap.size 36 4 v (W * H) (pxV (W * H) (flipP W H down px))) ∧ Ext w w' := by
  obtain ⟨W', H', q1, q2, hW1, hW2, hH1, hH2, _⟩ := rightB_yes hr
  obtain rfl : W' = W := by omega
  obtain rfl : H' = H := by omega
  have HR := Lib.hid hr
  have HX := Lib.hid hx
  clear q1 q2 hr hx
  go_enter Tryd.func16, Tryd.ntmps16
  go_wp2_with fail
  refine calls_world (fun wz => Ext w wz ∧ wz.heap.size = w.heap.size + 1 + 1 + 1 ∧ Bk wz (w.heap.size) #[.int .i64 (W' : Int), .int .i64 (H' : Int), .slice (some a) (W' * H') c] ∧ Bk wz (w.heap.size + 1) #[.bool down] ∧ Bk wz (w.heap.size + 1 + 1) #[.int .i64 0, .int .i64 0, .slice none 0 0]) ⟨by repeat (first | exact Ext.refl _ | refine Ext.alloc ?_ _), by simp, by repeat (first | exact Bk.at (by simp) | refine Bk.old ?_), by repeat (first | exact Bk.at (by simp) | refine Bk.old ?_), by repeat (first | exact Bk.at (by simp) | refine Bk.old ?_)⟩ ?_
  rintro wa ⟨hX, hZ, hB0, hB1, hB2⟩
  have B0 := Lib.hid hB0
  have B1 := Lib.hid hB1
  have B2 := Lib.hid hB2
  have XA := Lib.hid hX
  have ZA := Lib.hid hZ
  clear hB0 hB1 hB2 hX hZ
  refine (check_ok _ _ _ _ _ _ HR.out).mono ?_
  rintro e wb ⟨rfl, h2⟩
  have X2 := Lib.hid (h2)
  clear h2
  have c0 := (B0.out.ext X2.out).cell 0
  have c1 := (B0.out.ext X2.out).cell 1
  have hzb : w.heap.size + 1 + 1 < wb.heap.size := by have := X2.out.size; have := ZA.out; omega
  go_wp2_with fail
  refine (each_any 57 #[.pointer (some ⟨w.heap.size + 1, 0, none⟩), .pointer (some ⟨w.heap.size, 0, none⟩)] W' H' (fun x y => px (if down then (H' - 1 - y) * W' + x else y * W' + (W' - 1 - x))) wb (by omega) (by omega) enters_flip1 (fun x y w1 h1 hxW hyH => flip1_both x y W' H' a c w.heap.size (w.heap.size + 1) px down w1 (B0.out.ext (X2.out.trans h1)).pic ((B1.out.ext (X2.out.trans h1)).cell 0) (HX.out.ext ((XA.out.trans X2.out).trans h1)) hW2 hH2 hxW hyH)).mono ?_
  rintro e w3 ⟨⟨v, rfl, hown⟩, h3⟩
  have OWN := Lib.hid (hown)
  have X3 := Lib.hid (h3)
  clear h3 hown
  obtain ⟨x, c', rfl⟩ := own_slice OWN.out
  have B3 := B2.out.ext (X2.out.trans X3.out)
  have d0 := B3.cell 0
  have d1 := B3.cell 1
  have d2 := B3.cell 2
  have e0 := B3.frozen 0
  have e1 := B3.frozen 1
  have e2 := B3.frozen 2
  have FR := Lib.hid (fill_res (W := (W' : Int)) (H := (H' : Int)) ((XA.out.trans X2.out).trans X3.out) (by omega : w.heap.size ≤ w.heap.size + 1 + 1) B3.pic OWN.out hzb)
  clear B3 c0 c1
  go_wp2_with fail
  obtain ⟨P, own, hX⟩ := FR.out
  have k0 := P.c0
  have k1 := P.c1
  have k2 := P.c2
  exact bodyPost_ret (v := .tuple #[.agg #[.int .i64 (W' : Int), .int .i64 (H' : Int), .slice x (W' * H') c'], .nilIface]) (by simp [results, Tryd.results16, go_sem, k0, k1, k2]) rfl ⟨⟨_, rfl, owns_based own (by omega)⟩, hX⟩
end Go.Proofs.YtkfjcgcgfdibaaaDoor
