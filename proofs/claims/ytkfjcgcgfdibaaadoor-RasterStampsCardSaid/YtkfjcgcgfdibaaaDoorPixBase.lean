/- What Over's own variables hold while it runs. -/
import Derived.Test.YtkfjcgcgfdibaaaDoorPixWalks
import Derived.Test.YtkfjcgcgfdibaaaDoorP4
import Derived.StillTailTactics
import Derived.Deep.RegionHeld3
import Derived.Deep.DeepCutAuto
namespace Go.Proofs.YtkfjcgcgfdibaaaDoor
open Go.RowKit
/-- what Over's own variables hold, once the two covers are laid aside -/
structure OverW (w wx : World) (r g b r' g' b' : Int) : Prop where
  below : Below w.heap.size w wx
  size : w.heap.size + 3 ≤ wx.heap.size
  c0 : wx.cell? ⟨w.heap.size, 0, none⟩ = some (.int .u8 r)
  c1 : wx.cell? ⟨w.heap.size, 1, none⟩ = some (.int .u8 g)
  c2 : wx.cell? ⟨w.heap.size, 2, none⟩ = some (.int .u8 b)
  d0 : wx.cell? ⟨w.heap.size + 1, 0, none⟩ = some (.int .u8 r')
  d1 : wx.cell? ⟨w.heap.size + 1, 1, none⟩ = some (.int .u8 g')
  d2 : wx.cell? ⟨w.heap.size + 1, 2, none⟩ = some (.int .u8 b')
  r0 : wx.cell? ⟨w.heap.size + 2, 0, none⟩ = some (.int .u8 0)
  r1 : wx.cell? ⟨w.heap.size + 2, 1, none⟩ = some (.int .u8 0)
  r2 : wx.cell? ⟨w.heap.size + 2, 2, none⟩ = some (.int .u8 0)
  r3 : wx.cell? ⟨w.heap.size + 2, 3, none⟩ = some (.int .u8 0)
  z0 : wx.frozen? ⟨w.heap.size + 2, 0, none⟩ = false
  z1 : wx.frozen? ⟨w.heap.size + 2, 1, none⟩ = false
  z2 : wx.frozen? ⟨w.heap.size + 2, 2, none⟩ = false
  z3 : wx.frozen? ⟨w.heap.size + 2, 3, none⟩ = false
theorem OverW.on {w wx wy : World} {r g b r' g' b' : Int} (h : OverW w wx r g b r' g' b') (hb : Below wx.heap.size wx wy) : OverW w wy r g b r' g' b' := by
  have hs := h.size
  exact ⟨h.below.trans (hb.mono (by omega)), by have := hb.size; omega,
    (hb.cell (by simp <;> omega)).trans h.c0, (hb.cell (by simp <;> omega)).trans h.c1, (hb.cell (by simp <;> omega)).trans h.c2,
    (hb.cell (by simp <;> omega)).trans h.d0, (hb.cell (by simp <;> omega)).trans h.d1, (hb.cell (by simp <;> omega)).trans h.d2,
    (hb.cell (by simp <;> omega)).trans h.r0, (hb.cell (by simp <;> omega)).trans h.r1, (hb.cell (by simp <;> omega)).trans h.r2, (hb.cell (by simp <;> omega)).trans h.r3,
    (hb.frozen (by simp <;> omega)).trans h.z0, (hb.frozen (by simp <;> omega)).trans h.z1, (hb.frozen (by simp <;> omega)).trans h.z2, (hb.frozen (by simp <;> omega)).trans h.z3⟩
end Go.Proofs.YtkfjcgcgfdibaaaDoor
