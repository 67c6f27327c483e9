/- Get where it cannot: too wide, or no more bits. -/
import Derived.Test.YtdeiolagnheihaaDoorGet
import Derived.Test.YtdeiolagnheihaaDoorErrs
namespace Go.Proofs.YtdeiolagnheihaaDoor
open Go.RowKit
set_option maxRecDepth 100000
theorem get_bound (B o a : Nat) (width : Int) (s : ByteArray) (w : World) (E : Nat → Addr) (hE : Errs w E) (_hR : RAt w B o s a) (h1 : -9223372036854775808 ≤ width) (h2 : width ≤ 9223372036854775807) (h : width < 0 ∨ 32 < width) :
    Calls Tryd.prog 46 #[.pointer (some ⟨B, o, none⟩), .int .i64 width] w fun e w' => e = .returned (.tuple #[.int .u32 0, sentV (E 1)]) ∧ Ext w w' := by
  have c1 := hE.var 1 (by decide)
  simp only [gk, sentV] at c1
  clear hE
  rcases h with h0 | h0
  · go_enter Tryd.func46, Tryd.ntmps46
    go_wp2
    go_quiet (fail)
    go_wp2
    go_ret2
    exact ⟨rfl, by repeat (first | exact Ext.refl _ | refine Ext.drewN ?_ _)⟩
  · go_enter Tryd.func46, Tryd.ntmps46
    go_wp2
    go_quiet (fail)
    go_wp2
    go_ret2
    exact ⟨rfl, by repeat (first | exact Ext.refl _ | refine Ext.drewN ?_ _)⟩
structure Er2 (w : World) (E : Nat → Addr) : Prop where
  c0 : w.cell? ⟨2, 0, none⟩ = some (.iface 180 (.pointer (some (E 0))))
  c1 : w.cell? ⟨0, 0, none⟩ = some (.iface 180 (.pointer (some (E 1))))
theorem Er2.ext {w w' : World} {E : Nat → Addr} (h : Er2 w E) (hE : Ext w w') : Er2 w' E :=
  ⟨(hE.cell (p := ⟨2, 0, none⟩) (World.block_lt_of_cell? w _ h.c0)).trans h.c0, (hE.cell (p := ⟨0, 0, none⟩) (World.block_lt_of_cell? w _ h.c1)).trans h.c1⟩
theorem Errs.er2 {w : World} {E : Nat → Addr} (h : Errs w E) : Er2 w E := ⟨h.var 0 (by decide), h.var 1 (by decide)⟩
theorem get_text2 (B o a k : Nat) (s : ByteArray) (w : World) (E : Nat → Addr) (hE : Er2 w E) (hR : RAt w B o s a) (hk : k ≤ 32) (ha : 8 * s.size < a + k) (_ha2 : a ≤ 8 * s.size) :
    Calls Tryd.prog 46 #[.pointer (some ⟨B, o, none⟩), .int .i64 (k : Int)] w fun e w' => e = .returned (.tuple #[.int .u32 0, sentV (E 0)]) ∧ Ext w w' := by
  have c1 := hE.c0
  clear hE
  go_enter Tryd.func46, Tryd.ntmps46
  go_wp2_with fail
  refine (left_calls B o a s _ hR).mono ?_
  rintro e w2 ⟨rfl, m, rfl⟩
  go_wp2_with fail
  go_quiet (fail)
  go_wp2
  unfold sentV
  go_ret2
  exact ⟨rfl, by repeat (first | exact Ext.refl _ | refine Ext.drewN ?_ _)⟩
theorem get_text (B o a k : Nat) (s : ByteArray) (w : World) (E : Nat → Addr) (hE : Errs w E) (hR : RAt w B o s a) (hk : k ≤ 32) (ha : 8 * s.size < a + k) (ha2 : a ≤ 8 * s.size) :
    Calls Tryd.prog 46 #[.pointer (some ⟨B, o, none⟩), .int .i64 (k : Int)] w fun e w' => e = .returned (.tuple #[.int .u32 0, sentV (E 0)]) ∧ Ext w w' :=
  get_text2 B o a k s w E hE.er2 hR hk ha ha2
end Go.Proofs.YtdeiolagnheihaaDoor
