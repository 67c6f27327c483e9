/- Fill and Crop: their contracts, joined. -/
import Derived.Test.YtkfjcgcgfdibaaaDoorFillW
import Derived.Test.YtkfjcgcgfdibaaaDoorCropW
import Derived.Test.YtkfjcgcgfdibaaaDoorCropOf
namespace Go.Proofs.YtkfjcgcgfdibaaaDoor
open Go.RowKit
set_option maxRecDepth 100000
theorem set3_all {w0 w : World} {b : Nat} {x y z x' y' z' : Value} (hX : Ext w0 w) (hb : w0.heap.size ≤ b) (hB : Bk w b #[x, y, z]) :
    Ext w0 (((w.setCell ⟨b, 0, none⟩ x').setCell ⟨b, 1, none⟩ y').setCell ⟨b, 2, none⟩ z') ∧ Bk (((w.setCell ⟨b, 0, none⟩ x').setCell ⟨b, 1, none⟩ y').setCell ⟨b, 2, none⟩ z') b #[x', y', z'] ∧ Keeps (fun k => k = b) w (((w.setCell ⟨b, 0, none⟩ x').setCell ⟨b, 1, none⟩ y').setCell ⟨b, 2, none⟩ z') :=
  ⟨hX.set3 hb _ _ _, ((hB.set_ 0 x').set_ 1 y').set_ 2 z', (((Keeps.refl (fun k => k = b) w).setCell (.inl rfl) _).setCell (.inl rfl) _).setCell (.inl rfl) _⟩
def fillB (X Y RW RH : Int) : Bool := nearAll (rf X Y RW RH) 4 && decide (0 ≤ RW ∧ 0 ≤ RH)
def cropB (X Y RW RH W H : Int) : Bool := decide (1 ≤ RW ∧ 1 ≤ RH ∧ 0 ≤ X ∧ 0 ≤ Y ∧ X < W ∧ Y < H ∧ RW ≤ W - X ∧ RH ≤ H - Y)
theorem fill_shape (X Y RW RH r g b a : Int) (W H : Int) (x : Option Addr) (n c : Nat) (E : Nat → Addr) (w : World) (hE : Errs w E) (hr : rightB W H n = false) :
    Calls Tryd.prog 27 #[.agg #[.int .i64 W, .int .i64 H, .slice x n c], .agg #[.int .i64 X, .int .i64 Y, .int .i64 RW, .int .i64 RH], .agg #[.int .u8 r, .int .u8 g, .int .u8 b, .int .u8 a]] w fun e w' => e = .returned (.tuple #[.agg #[.int .i64 0, .int .i64 0, .slice none 0 0], .iface 171 (.pointer (some (E 2)))]) ∧ Ext w w' := by
  cases hN : nearAll (rf X Y RW RH) 4
  · exact fill_shape_N X Y RW RH r g b a W H x n c E w hN hE hr
  · by_cases h1 : RW < 0
    · exact fill_shape_W X Y RW RH r g b a W H x n c E w hN h1 hE hr
    · by_cases h2 : RH < 0
      · exact fill_shape_H X Y RW RH r g b a W H x n c E w hN (by omega) h2 hE hr
      · exact fill_shape_T X Y RW RH r g b a W H x n c E w hN (by omega) (by omega) hE hr
theorem fill_bound (X Y RW RH r g b a : Int) (W H : Int) (x : Option Addr) (n c : Nat) (E : Nat → Addr) (w : World) (hE : Errs w E) (hr : rightB W H n = true) (hb : fillB X Y RW RH = false) :
    Calls Tryd.prog 27 #[.agg #[.int .i64 W, .int .i64 H, .slice x n c], .agg #[.int .i64 X, .int .i64 Y, .int .i64 RW, .int .i64 RH], .agg #[.int .u8 r, .int .u8 g, .int .u8 b, .int .u8 a]] w fun e w' => e = .returned (.tuple #[.agg #[.int .i64 0, .int .i64 0, .slice none 0 0], .iface 171 (.pointer (some (E 1)))]) ∧ Ext w w' := by
  cases hN : nearAll (rf X Y RW RH) 4
  · exact fill_bound_N X Y RW RH r g b a W H x n c E w hN hE hr
  · by_cases h1 : RW < 0
    · exact fill_bound_W X Y RW RH r g b a W H x n c E w hN h1 hE hr
    · by_cases h2 : RH < 0
      · exact fill_bound_H X Y RW RH r g b a W H x n c E w hN (by omega) h2 hE hr
      · unfold fillB at hb
        rw [hN, Bool.true_and] at hb
        exact absurd (show 0 ≤ RW ∧ 0 ≤ RH by omega) (of_decide_eq_false hb)
theorem lin_fl {W H : Nat} {X Y RW RH : Int} {p : P4} {px : Nat → P4} {i : Nat} (hi : i < W * H) : lin W (fun x y => if inR X Y RW RH (x : Int) (y : Int) then p else px (y * W + x)) i = flP W X Y RW RH p px (H * W) i := by
  have h : i < H * W := by rw [Nat.mul_comm]; exact hi
  have e : i / W * W + i % W = i := by rw [Nat.mul_comm]; exact Nat.div_add_mod i W
  unfold lin flP
  simp only [h, true_and, e]
theorem flP_ok {W H : Nat} {X Y RW RH : Int} {p : P4} {px : Nat → P4} {k : Nat} (hp : p.Ok) (hx : ∀ i, i < W * H → (px i).Ok) : ∀ i, i < W * H → (flP W X Y RW RH p px k i).Ok := by
  intro i hi; unfold flP; split
  · exact hp
  · exact hx i hi
theorem Pxs.oks {w : World} {a : Addr} {n : Nat} {px : Nat → P4} (h : Pxs w (some a) n px) : ∀ i, i < n → (px i).Ok := fun i hi => (h.2 a rfl i hi).2.2.2.2
theorem fill_ok (X Y RW RH r g b a : Int) (W H : Nat) (ad : Addr) (c : Nat) (px : Nat → P4) (w : World) (hp : (P4.mk r g b a).Ok) (hb : fillB X Y RW RH = true) (hr : rightB (W : Int) (H : Int) (W * H) = true) (hx : Pxs w (some ad) (W * H) px) :
    Calls Tryd.prog 27 #[.agg #[.int .i64 (W : Int), .int .i64 (H : Int), .slice (some ad) (W * H) c], .agg #[.int .i64 X, .int .i64 Y, .int .i64 RW, .int .i64 RH], .agg #[.int .u8 r, .int .u8 g, .int .u8 b, .int .u8 a]] w fun e w' => (∃ fx fc, e = .returned (.tuple #[.agg #[.int .i64 (W : Int), .int .i64 (H : Int), .slice fx (W * H) fc], .nilIface]) ∧ Pxs w' fx (W * H) (flP W X Y RW RH ⟨r, g, b, a⟩ px (H * W)) ∧ ∀ q, fx = some q → w.heap.size ≤ q.block) ∧ Ext w w' := by
  unfold fillB at hb
  rw [Bool.and_eq_true] at hb
  obtain ⟨hb1, hb2⟩ := hb
  obtain ⟨hb2, hb3⟩ := of_decide_eq_true hb2
  refine (fill_ok_T X Y RW RH r g b a W H ad c px w hb1 hb2 hb3 hr hx).mono ?_
  rintro e w' ⟨⟨v, rfl, hown⟩, hX⟩
  obtain ⟨fx, fc, rfl, hpx, hge⟩ := Pxs.of_own hown (fun i hi => by rw [lin_fl hi]; exact flP_ok hp hx.oks i hi)
  exact ⟨⟨fx, fc, rfl, hpx.congr fun i hi => (lin_fl hi).symm, hge⟩, hX⟩
theorem fillOf_px (W H : Nat) (ad : Addr) (cap : Nat) (px : Nat → P4) (X Y RW RH r g b a : Int) (w : World) (hp : (P4.mk r g b a).Ok) (hr : rightB (W : Int) (H : Int) (W * H) = true) (hb : fillB X Y RW RH = true) (hx : Pxs w (some ad) (W * H) px) :
    Calls Tryd.prog 30 #[.agg #[.int .i64 (W : Int), .int .i64 (H : Int), .slice (some ad) (W * H) cap], .agg #[.int .i64 X, .int .i64 Y, .int .i64 RW, .int .i64 RH], .agg #[.int .u8 r, .int .u8 g, .int .u8 b, .int .u8 a]] w fun e w' => (∃ fx fc, e = .returned (.agg #[.int .i64 (W : Int), .int .i64 (H : Int), .slice fx (W * H) fc]) ∧ Pxs w' fx (W * H) (flP W X Y RW RH ⟨r, g, b, a⟩ px (H * W))) ∧ Ext w w' := by
  unfold fillB at hb
  rw [Bool.and_eq_true] at hb
  obtain ⟨W', H', q1, q2, hW1, hW2, hH1, hH2, _⟩ := rightB_yes hr
  obtain rfl : W' = W := by omega
  obtain rfl : H' = H := by omega
  refine (fillOf_any W' H' ad cap px X Y RW RH ⟨r, g, b, a⟩ w hx ⟨hW1, hW2⟩ ⟨hH1, hH2⟩ (rf_near hb.1)).mono ?_
  rintro e w' ⟨⟨gg, c, rfl, hpo, _⟩, hX⟩
  exact ⟨⟨_, c, rfl, hpo.pxs (flP_ok hp hx.oks)⟩, hX⟩
theorem crop_shape (X Y RW RH W H : Int) (x : Option Addr) (n c : Nat) (E : Nat → Addr) (w : World) (hb : W ≤ 9223372036854775807 ∧ H ≤ 9223372036854775807) (hE : Errs w E) (hr : rightB W H n = false) :
    Calls Tryd.prog 28 #[.agg #[.int .i64 W, .int .i64 H, .slice x n c], .agg #[.int .i64 X, .int .i64 Y, .int .i64 RW, .int .i64 RH]] w fun e w' => e = .returned (.tuple #[.agg #[.int .i64 0, .int .i64 0, .slice none 0 0], .iface 171 (.pointer (some (E 2)))]) ∧ Ext w w' := by
  by_cases h1 : RW < 1
  · exact crop_shape_A X Y RW RH W H x n c E w h1 hb hE hr
  by_cases h2 : RH < 1
  · exact crop_shape_B X Y RW RH W H x n c E w (by omega) h2 hb hE hr
  cases h3 : inB W H X Y
  · exact crop_shape_C X Y RW RH W H x n c E w (by omega) (by omega) h3 hb hE hr
  by_cases h4 : W - X < RW
  · exact crop_shape_D X Y RW RH W H x n c E w (by omega) (by omega) h3 h4 hb hE hr
  by_cases h5 : H - Y < RH
  · exact crop_shape_F X Y RW RH W H x n c E w (by omega) (by omega) h3 (by omega) h5 hb hE hr
  · exact crop_shape_T X Y RW RH W H x n c E w (by omega) (by omega) h3 (by omega) (by omega) hb hE hr
theorem crop_bound (X Y RW RH W H : Int) (x : Option Addr) (n c : Nat) (E : Nat → Addr) (w : World) (hb : W ≤ 9223372036854775807 ∧ H ≤ 9223372036854775807) (hE : Errs w E) (hr : rightB W H n = true) (hc : cropB X Y RW RH W H = false) :
    Calls Tryd.prog 28 #[.agg #[.int .i64 W, .int .i64 H, .slice x n c], .agg #[.int .i64 X, .int .i64 Y, .int .i64 RW, .int .i64 RH]] w fun e w' => e = .returned (.tuple #[.agg #[.int .i64 0, .int .i64 0, .slice none 0 0], .iface 171 (.pointer (some (E 1)))]) ∧ Ext w w' := by
  by_cases h1 : RW < 1
  · exact crop_bound_A X Y RW RH W H x n c E w h1 hb hE hr
  by_cases h2 : RH < 1
  · exact crop_bound_B X Y RW RH W H x n c E w (by omega) h2 hb hE hr
  cases h3 : inB W H X Y
  · exact crop_bound_C X Y RW RH W H x n c E w (by omega) (by omega) h3 hb hE hr
  by_cases h4 : W - X < RW
  · exact crop_bound_D X Y RW RH W H x n c E w (by omega) (by omega) h3 h4 hb hE hr
  by_cases h5 : H - Y < RH
  · exact crop_bound_F X Y RW RH W H x n c E w (by omega) (by omega) h3 (by omega) h5 hb hE hr
  · obtain ⟨i1, i2, i3, i4⟩ := of_decide_eq_true h3
    exact absurd (show 1 ≤ RW ∧ 1 ≤ RH ∧ 0 ≤ X ∧ 0 ≤ Y ∧ X < W ∧ Y < H ∧ RW ≤ W - X ∧ RH ≤ H - Y by omega) (of_decide_eq_false hc)
theorem cropIs_any (X Y RW RH W H : Int) (x : Option Addr) (n c : Nat) (w : World) (hb : W ≤ 9223372036854775807 ∧ H ≤ 9223372036854775807) :
    Calls Tryd.prog 31 #[.agg #[.int .i64 W, .int .i64 H, .slice x n c], .agg #[.int .i64 X, .int .i64 Y, .int .i64 RW, .int .i64 RH]] w fun e w' => e = .returned (.bool (cropB X Y RW RH W H)) ∧ Ext w w' := by
  by_cases g1 : X < 0
  · rw [show cropB X Y RW RH W H = false from decide_eq_false (by omega)]; exact cropIs_n1 X Y RW RH W H x n c w g1 hb
  by_cases g2 : Y < 0
  · rw [show cropB X Y RW RH W H = false from decide_eq_false (by omega)]; exact cropIs_n2 X Y RW RH W H x n c w g1 g2 hb
  by_cases g3 : RW < 1
  · rw [show cropB X Y RW RH W H = false from decide_eq_false (by omega)]; exact cropIs_n3 X Y RW RH W H x n c w g1 g2 g3 hb
  by_cases g4 : RH < 1
  · rw [show cropB X Y RW RH W H = false from decide_eq_false (by omega)]; exact cropIs_n4 X Y RW RH W H x n c w g1 g2 g3 g4 hb
  by_cases g5 : W ≤ X
  · rw [show cropB X Y RW RH W H = false from decide_eq_false (by omega)]; exact cropIs_n5 X Y RW RH W H x n c w g1 g2 g3 g4 g5 hb
  by_cases g6 : H ≤ Y
  · rw [show cropB X Y RW RH W H = false from decide_eq_false (by omega)]; exact cropIs_n6 X Y RW RH W H x n c w g1 g2 g3 g4 g5 g6 hb
  by_cases g7 : RW ≤ W - X
  · by_cases g8 : RH ≤ H - Y
    · rw [show cropB X Y RW RH W H = true from decide_eq_true (by omega)]; exact cropIs_yes X Y RW RH W H x n c w g1 g2 g3 g4 g5 g6 g7 g8 hb
    · rw [show cropB X Y RW RH W H = false from decide_eq_false (by omega)]; exact cropIs_n8 X Y RW RH W H x n c w g1 g2 g3 g4 g5 g6 g7 g8 hb
  · rw [show cropB X Y RW RH W H = false from decide_eq_false (by omega)]; exact cropIs_n7 X Y RW RH W H x n c w g1 g2 g3 g4 g5 g6 g7 hb
theorem crop_oks {X Y RW RH W H : Nat} {px : Nat → P4} (h3 : X + RW ≤ W) (h4 : Y + RH ≤ H) (hx : ∀ i, i < W * H → (px i).Ok) : ∀ i, i < RW * RH → (lin RW (fun x y => px ((y + Y) * W + (X + x))) i).Ok := by
  intro i hi
  obtain ⟨q1, q2⟩ := lin_idx hi
  unfold lin
  exact hx _ (mul_lt_of (by omega) (by omega))
theorem crop_ok (X Y RW RH W H : Nat) (ad : Addr) (c : Nat) (px : Nat → P4) (w : World) (h1 : 1 ≤ RW) (h2 : 1 ≤ RH) (h3 : X + RW ≤ W) (h4 : Y + RH ≤ H) (hr : rightB (W : Int) (H : Int) (W * H) = true) (hx : Pxs w (some ad) (W * H) px) :
    Calls Tryd.prog 28 #[.agg #[.int .i64 (W : Int), .int .i64 (H : Int), .slice (some ad) (W * H) c], .agg #[.int .i64 (X : Int), .int .i64 (Y : Int), .int .i64 (RW : Int), .int .i64 (RH : Int)]] w fun e w' => (∃ fx fc, e = .returned (.tuple #[.agg #[.int .i64 (RW : Int), .int .i64 (RH : Int), .slice fx (RW * RH) fc], .nilIface]) ∧ Pxs w' fx (RW * RH) (lin RW fun x y => px ((y + Y) * W + (X + x))) ∧ ∀ q, fx = some q → w.heap.size ≤ q.block) ∧ Ext w w' := by
  refine (crop_ok_T X Y RW RH W H ad c px w h1 h2 h3 h4 hr hx).mono ?_
  rintro e w' ⟨⟨v, rfl, hown⟩, hX⟩
  obtain ⟨fx, fc, rfl, hpx, hge⟩ := Pxs.of_own hown (crop_oks h3 h4 hx.oks)
  exact ⟨⟨fx, fc, rfl, hpx, hge⟩, hX⟩
theorem cropOf_px (X Y RW RH W H : Nat) (ad : Addr) (c : Nat) (px : Nat → P4) (w : World) (h1 : 1 ≤ RW) (h2 : 1 ≤ RH) (h3 : X + RW ≤ W) (h4 : Y + RH ≤ H) (hr : rightB (W : Int) (H : Int) (W * H) = true) (hx : Pxs w (some ad) (W * H) px) :
    Calls Tryd.prog 32 #[.agg #[.int .i64 (W : Int), .int .i64 (H : Int), .slice (some ad) (W * H) c], .agg #[.int .i64 (X : Int), .int .i64 (Y : Int), .int .i64 (RW : Int), .int .i64 (RH : Int)]] w fun e w' => (∃ fx fc, e = .returned (.agg #[.int .i64 (RW : Int), .int .i64 (RH : Int), .slice fx (RW * RH) fc]) ∧ Pxs w' fx (RW * RH) (lin RW fun x y => px ((y + Y) * W + (X + x)))) ∧ Ext w w' := by
  obtain ⟨W', H', q1, q2, hW1, hW2, hH1, hH2, _⟩ := rightB_yes hr
  obtain rfl : W' = W := by omega
  obtain rfl : H' = H := by omega
  refine (cropOf_any X Y RW RH W' H' ad c px w hx ⟨hW1, hW2⟩ ⟨hH1, hH2⟩ h1 h2 h3 h4).mono ?_
  rintro e w' ⟨⟨gg, c, rfl, hpo, _⟩, hX⟩
  exact ⟨⟨_, c, rfl, hpo.pxs (crop_oks h3 h4 hx.oks)⟩, hX⟩
end Go.Proofs.YtkfjcgcgfdibaaaDoor
