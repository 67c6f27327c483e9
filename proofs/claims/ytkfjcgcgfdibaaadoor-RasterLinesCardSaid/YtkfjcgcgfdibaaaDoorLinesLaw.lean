/- Lines: contracts with pixels. -/
import Derived.Test.YtkfjcgcgfdibaaaDoorLineW
import Derived.Test.YtkfjcgcgfdibaaaDoorLineOf
namespace Go.Proofs.YtkfjcgcgfdibaaaDoor
open Go.RowKit
set_option maxRecDepth 100000
theorem lnP_ok {W H : Nat} {X0 Y0 X1 Y1 : Int} {p : P4} {px : Nat → P4} {n : Nat} (hp : p.Ok) (hx : ∀ i, i < n → (px i).Ok) : ∀ k i, i < n → (lnP W H X0 Y0 X1 Y1 p px k i).Ok := by
  intro k
  induction k with
  | zero => exact hx
  | succ k ih =>
    intro i hi
    simp only [lnP]
    split
    · exact upd_ok ih hp i hi
    · exact ih i hi
theorem line_px (X0 Y0 X1 Y1 r g b a : Int) (W H : Nat) (ad : Addr) (c : Nat) (px : Nat → P4) (w : World) (hp : (P4.mk r g b a).Ok) (hN : nearAll (rf X0 Y0 X1 Y1) 4 = true) (hr : rightB (W : Int) (H : Int) (W * H) = true) (hx : Pxs w (some ad) (W * H) px) :
    Calls Tryd.prog 35 #[.agg #[.int .i64 (W : Int), .int .i64 (H : Int), .slice (some ad) (W * H) c], .int .i64 X0, .int .i64 Y0, .int .i64 X1, .int .i64 Y1, .agg #[.int .u8 r, .int .u8 g, .int .u8 b, .int .u8 a]] w fun e w' => (∃ fx fc, e = .returned (.tuple #[.agg #[.int .i64 (W : Int), .int .i64 (H : Int), .slice fx (W * H) fc], .nilIface]) ∧ Pxs w' fx (W * H) (lnP W H X0 Y0 X1 Y1 ⟨r, g, b, a⟩ px (lnN X0 Y0 X1 Y1 + 1)) ∧ ∀ q, fx = some q → w.heap.size ≤ q.block) ∧ Ext w w' := by
  refine (line_ok X0 Y0 X1 Y1 r g b a W H ad c px w hN hr hx).mono ?_
  rintro e w' ⟨⟨gg, cc, rfl, hpo, hg⟩, hX⟩
  exact ⟨⟨_, cc, rfl, hpo.pxs (lnP_ok hp hx.oks _), fun q hq => by injection hq with hq; subst hq; exact hg⟩, hX⟩
theorem lineOf_px (X0 Y0 X1 Y1 r g b a : Int) (W H : Nat) (ad : Addr) (c : Nat) (px : Nat → P4) (w : World) (hp : (P4.mk r g b a).Ok) (hN : nearAll (rf X0 Y0 X1 Y1) 4 = true) (hr : rightB (W : Int) (H : Int) (W * H) = true) (hx : Pxs w (some ad) (W * H) px) :
    Calls Tryd.prog 36 #[.agg #[.int .i64 (W : Int), .int .i64 (H : Int), .slice (some ad) (W * H) c], .int .i64 X0, .int .i64 Y0, .int .i64 X1, .int .i64 Y1, .agg #[.int .u8 r, .int .u8 g, .int .u8 b, .int .u8 a]] w fun e w' => (∃ fx fc, e = .returned (.agg #[.int .i64 (W : Int), .int .i64 (H : Int), .slice fx (W * H) fc]) ∧ Pxs w' fx (W * H) (lnP W H X0 Y0 X1 Y1 ⟨r, g, b, a⟩ px (lnN X0 Y0 X1 Y1 + 1))) ∧ Ext w w' := by
  obtain ⟨W', H', q1, q2, hW1, hW2, hH1, hH2, _⟩ := rightB_yes hr
  obtain rfl : W' = W := by omega
  obtain rfl : H' = H := by omega
  refine (lineOf_any X0 Y0 X1 Y1 r g b a W' H' ad c px w hN ⟨hW1, hW2⟩ ⟨hH1, hH2⟩ hx).mono ?_
  rintro e w' ⟨⟨gg, cc, rfl, hpo, hg⟩, hX⟩
  exact ⟨⟨_, cc, rfl, hpo.pxs (lnP_ok hp hx.oks _)⟩, hX⟩
end Go.Proofs.YtkfjcgcgfdibaaaDoor
