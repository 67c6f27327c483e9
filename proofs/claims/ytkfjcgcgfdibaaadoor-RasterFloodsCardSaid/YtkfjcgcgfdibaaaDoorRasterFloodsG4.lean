/-
  Parts of pictures: the closures of Fill and Crop.
  The document's Fill and Crop: Own, and the loops that write.
  The document's Crop.
  A flood: what can be reached; a search with a heap of places, and wave by wave. No function of the program is named.
  Pixels written one by one: what stands there in the end. No function of the program is named.
  Rows of cells of whatever values. No function of the program is named.
-/
import Derived.Test.YtkfjcgcgfdibaaaDoorRasterFloodsG3
import Derived.Deep.RegionHeld3
import Derived.Test.YtkfjcgcgfdibaaaDoorRasterFloodsG1
namespace Go.Proofs.YtkfjcgcgfdibaaaDoor
open Go.RowKit
set_option maxRecDepth 100000
/-- a rectangle in memory -/
def Rc (w : World) (b : Nat) (X Y W H : Int) : Prop := Bk w b #[.int .i64 X, .int .i64 Y, .int .i64 W, .int .i64 H]
def inR (X Y W H x y : Int) : Bool := decide (X ≤ x ∧ x < X + W ∧ Y ≤ y ∧ y < Y + H)
theorem Rc.ext {w w' : World} {b : Nat} {X Y W H : Int} (h : Rc w b X Y W H) (hE : Ext w w') : Rc w' b X Y W H := Bk.ext h hE
theorem crop1_any (x y W H X Y : Nat) (RW RH : Int) (a : Addr) (c P R : Nat) (px : Nat → P4) (w : World) (hP : PicAt w P (W : Int) (H : Int) (.slice (some a) (W * H) c)) (hR : Rc w R (X : Int) (Y : Int) RW RH) (hx : Pxs w (some a) (W * H) px) (hW : W ≤ 256) (hH : H ≤ 256) (hxW : X + x < W) (hyH : y + Y < H) :
    Calls Tryd.prog 66 #[.int .i64 (x : Int), .int .i64 (y : Int), .pointer (some ⟨P, 0, none⟩), .pointer (some ⟨R, 0, none⟩)] w fun e w' => e = .returned (.agg #[.int .u8 (px ((y + Y) * W + (X + x))).r, .int .u8 (px ((y + Y) * W + (X + x))).g, .int .u8 (px ((y + Y) * W + (X + x))).b, .int .u8 (px ((y + Y) * W + (X + x))).a]) ∧ Ext w w' := by
  have hi : (y + Y) * W + (X + x) < W * H := mul_lt_of hyH hxW
  have hX0 : Ext w (w.alloc (.cells #[.int .u8 0, .int .u8 0, .int .u8 0, .int .u8 0] 36)) := (Ext.refl w).alloc _
  obtain ⟨p0, p1, p2⟩ := hP.ext hX0
  have r0 := (hR.ext hX0).cell 0
  have r1 := (hR.ext hX0).cell 1
  obtain ⟨M, hM⟩ : ∃ M, (y + Y) * W = M := ⟨_, rfl⟩
  have hM1 : M ≤ 65536 := by rw [← hM]; exact Nat.mul_le_mul (show y + Y ≤ 256 by omega) hW
  have hMI : ((y : Int) + (Y : Int)) * (W : Int) = (M : Int) := by rw [← hM]; simp
  rw [hM] at hi ⊢
  rw [show M + (X + x) = M + x + X by omega] at hi ⊢
  obtain ⟨c0, c1, c2, c3, _⟩ := (hx.ext hX0).2 a rfl (M + x + X) hi
  obtain ⟨N, hN⟩ : ∃ N, W * H = N := ⟨_, rfl⟩
  have hNl : N ≤ 65536 := by rw [← hN]; exact Nat.mul_le_mul hW hH
  rw [hN] at hi p2
  have MM := Lib.hid hM
  have NN := Lib.hid hN
  clear hX0 hP hR hM hN hx
  go_enter Tryd.func66, Tryd.ntmps66
  go_wp2_with fail
  exact bodyPost_ret (v := .agg #[.int .u8 (px (M + x + X)).r, .int .u8 (px (M + x + X)).g, .int .u8 (px (M + x + X)).b, .int .u8 (px (M + x + X)).a]) (by simp [results, Tryd.results66, go_sem]) rfl ⟨rfl, by repeat (first | exact Ext.refl _ | refine Ext.alloc ?_ _)⟩
theorem fill1_in (x y : Nat) (X Y RW RH r g b a : Int) (P R C : Nat) (w : World) (hR : Rc w R X Y RW RH) (hC : Bk w C #[.int .u8 r, .int .u8 g, .int .u8 b, .int .u8 a]) (hn : (-10000 ≤ X ∧ X ≤ 10000) ∧ (-10000 ≤ Y ∧ Y ≤ 10000) ∧ (-10000 ≤ RW ∧ RW ≤ 10000) ∧ (-10000 ≤ RH ∧ RH ≤ 10000)) (hi : inR X Y RW RH (x : Int) (y : Int) = true) :
    Calls Tryd.prog 65 #[.int .i64 (x : Int), .int .i64 (y : Int), .pointer (some ⟨R, 0, none⟩), .pointer (some ⟨C, 0, none⟩), .pointer (some ⟨P, 0, none⟩)] w fun e w' => e = .returned (.agg #[.int .u8 r, .int .u8 g, .int .u8 b, .int .u8 a]) ∧ Ext w w' := by
  obtain ⟨i1, i2, i3, i4⟩ := of_decide_eq_true hi
  obtain ⟨⟨n1, n2⟩, ⟨n3, n4⟩, ⟨n5, n6⟩, n7, n8⟩ := hn
  have hX0 : Ext w (w.alloc (.cells #[.int .u8 0, .int .u8 0, .int .u8 0, .int .u8 0] 36)) := (Ext.refl w).alloc _
  have r0 := (hR.ext hX0).cell 0
  have r1 := (hR.ext hX0).cell 1
  have r2 := (hR.ext hX0).cell 2
  have r3 := (hR.ext hX0).cell 3
  have c0 := (hC.ext hX0).cell 0
  have c1 := (hC.ext hX0).cell 1
  have c2 := (hC.ext hX0).cell 2
  have c3 := (hC.ext hX0).cell 3
  have t1 : decide (X ≤ (x : Int)) = true := decide_eq_true i1
  have t2 : decide ((x : Int) < X + RW) = true := decide_eq_true i2
  have t3 : decide (Y ≤ (y : Int)) = true := decide_eq_true i3
  have t4 : decide ((y : Int) < Y + RH) = true := decide_eq_true i4
  clear hX0 hR hC hi
  go_enter Tryd.func65, Tryd.ntmps65
  go_wp2_with fail
  exact bodyPost_ret (v := .agg #[.int .u8 r, .int .u8 g, .int .u8 b, .int .u8 a]) (by simp [results, Tryd.results65, go_sem]) rfl ⟨rfl, by repeat (first | exact Ext.refl _ | refine Ext.alloc ?_ _)⟩
theorem fill1_out (x y W H : Nat) (X Y RW RH : Int) (ad : Addr) (c P R C : Nat) (px : Nat → P4) (w : World) (hP : PicAt w P (W : Int) (H : Int) (.slice (some ad) (W * H) c)) (hR : Rc w R X Y RW RH) (hx : Pxs w (some ad) (W * H) px) (hW : W ≤ 256) (hH : H ≤ 256) (hxW : x < W) (hyH : y < H) (hn : (-10000 ≤ X ∧ X ≤ 10000) ∧ (-10000 ≤ Y ∧ Y ≤ 10000) ∧ (-10000 ≤ RW ∧ RW ≤ 10000) ∧ (-10000 ≤ RH ∧ RH ≤ 10000)) (hi : inR X Y RW RH (x : Int) (y : Int) = false) :
    Calls Tryd.prog 65 #[.int .i64 (x : Int), .int .i64 (y : Int), .pointer (some ⟨R, 0, none⟩), .pointer (some ⟨C, 0, none⟩), .pointer (some ⟨P, 0, none⟩)] w fun e w' => e = .returned (.agg #[.int .u8 (px (y * W + x)).r, .int .u8 (px (y * W + x)).g, .int .u8 (px (y * W + x)).b, .int .u8 (px (y * W + x)).a]) ∧ Ext w w' := by
  have hi' := of_decide_eq_false hi
  obtain ⟨⟨n1, n2⟩, ⟨n3, n4⟩, ⟨n5, n6⟩, n7, n8⟩ := hn
  have hid : y * W + x < W * H := mul_lt_of hyH hxW
  have hX0 : Ext w (w.alloc (.cells #[.int .u8 0, .int .u8 0, .int .u8 0, .int .u8 0] 36)) := (Ext.refl w).alloc _
  have r0 := (hR.ext hX0).cell 0
  have r1 := (hR.ext hX0).cell 1
  have r2 := (hR.ext hX0).cell 2
  have r3 := (hR.ext hX0).cell 3
  obtain ⟨p0, p1, p2⟩ := hP.ext hX0
  obtain ⟨M, hM⟩ : ∃ M, y * W = M := ⟨_, rfl⟩
  have hM1 : M ≤ 65536 := by rw [← hM]; exact Nat.mul_le_mul (show y ≤ 256 by omega) hW
  have hMI : (y : Int) * (W : Int) = (M : Int) := by rw [← hM]; simp
  rw [hM] at hid ⊢
  obtain ⟨c0, c1, c2, c3, _⟩ := (hx.ext hX0).2 ad rfl (M + x) hid
  obtain ⟨N, hN⟩ : ∃ N, W * H = N := ⟨_, rfl⟩
  have hNl : N ≤ 65536 := by rw [← hN]; exact Nat.mul_le_mul hW hH
  rw [hN] at hid p2
  have MM := Lib.hid hM
  have NN := Lib.hid hN
  clear hX0 hP hR hM hN hx hi
  by_cases i1 : X ≤ (x : Int)
  · have t1 : decide (X ≤ (x : Int)) = true := decide_eq_true i1
    by_cases i2 : (x : Int) < X + RW
    · have t2 : decide ((x : Int) < X + RW) = true := decide_eq_true i2
      by_cases i3 : Y ≤ (y : Int)
      · have t3 : decide (Y ≤ (y : Int)) = true := decide_eq_true i3
        have t4 : decide ((y : Int) < Y + RH) = false := decide_eq_false (fun h => hi' ⟨i1, i2, i3, h⟩)
        clear hi'
        go_enter Tryd.func65, Tryd.ntmps65
        go_wp2_with fail
        exact bodyPost_ret (v := .agg #[.int .u8 (px (M + x)).r, .int .u8 (px (M + x)).g, .int .u8 (px (M + x)).b, .int .u8 (px (M + x)).a]) (by simp [results, Tryd.results65, go_sem]) rfl ⟨rfl, by repeat (first | exact Ext.refl _ | refine Ext.alloc ?_ _)⟩
      · have t3 : decide (Y ≤ (y : Int)) = false := decide_eq_false i3
        clear hi'
        go_enter Tryd.func65, Tryd.ntmps65
        go_wp2_with fail
        exact bodyPost_ret (v := .agg #[.int .u8 (px (M + x)).r, .int .u8 (px (M + x)).g, .int .u8 (px (M + x)).b, .int .u8 (px (M + x)).a]) (by simp [results, Tryd.results65, go_sem]) rfl ⟨rfl, by repeat (first | exact Ext.refl _ | refine Ext.alloc ?_ _)⟩
    · have t2 : decide ((x : Int) < X + RW) = false := decide_eq_false i2
      clear hi'
      go_enter Tryd.func65, Tryd.ntmps65
      go_wp2_with fail
      exact bodyPost_ret (v := .agg #[.int .u8 (px (M + x)).r, .int .u8 (px (M + x)).g, .int .u8 (px (M + x)).b, .int .u8 (px (M + x)).a]) (by simp [results, Tryd.results65, go_sem]) rfl ⟨rfl, by repeat (first | exact Ext.refl _ | refine Ext.alloc ?_ _)⟩
  · have t1 : decide (X ≤ (x : Int)) = false := decide_eq_false i1
    clear hi'
    go_enter Tryd.func65, Tryd.ntmps65
    go_wp2_with fail
    exact bodyPost_ret (v := .agg #[.int .u8 (px (M + x)).r, .int .u8 (px (M + x)).g, .int .u8 (px (M + x)).b, .int .u8 (px (M + x)).a]) (by simp [results, Tryd.results65, go_sem]) rfl ⟨rfl, by repeat (first | exact Ext.refl _ | refine Ext.alloc ?_ _)⟩
theorem enters_fill1 : ∀ (args : Array Value) (w : World), (callFunc 65 args).run Tryd.prog w = .ok (.enter 65 args) w := enters_fn Tryd.func65 (by kernel_rfl) rfl
theorem enters_crop1 : ∀ (args : Array Value) (w : World), (callFunc 66 args).run Tryd.prog w = .ok (.enter 66 args) w := enters_fn Tryd.func66 (by kernel_rfl) rfl
end Go.Proofs.YtkfjcgcgfdibaaaDoor
namespace Go.Proofs.YtkfjcgcgfdibaaaDoor
open Go.RowKit
set_option maxRecDepth 100000
/-- what a loop that writes pixels holds: the result's variable, the picture's, its row -/
structure FAt (w0 wr : World) (R T g : Nat) (W H : Int) (n c : Nat) (px : Nat → P4) : Prop where
  ext : Ext w0 wr
  res : Bk wr R #[.int .i64 0, .int .i64 0, .slice none 0 0]
  bk : Bk wr T #[.int .i64 W, .int .i64 H, .slice (some ⟨g, 0, none⟩) n c]
  row : Po wr g n px
  nT : T ≠ g
  nR : R ≠ g
  gn : w0.heap.size ≤ g
theorem FAt.put {w0 wr : World} {R T g : Nat} {W H : Int} {n c : Nat} {px : Nat → P4} (h : FAt w0 wr R T g W H n c px) (k : Nat) (p : P4) : FAt w0 (set4 wr g k p) R T g W H n c (upd px k p) :=
  ⟨set4_ext h.ext h.gn k p, h.res.keeps (set4_keeps wr g k p) h.nR, h.bk.keeps (set4_keeps wr g k p) h.nT, h.row.put k p, h.nT, h.nR, h.gn⟩
theorem FAt.congr {w0 wr : World} {R T g : Nat} {W H : Int} {n c : Nat} {px qx : Nat → P4} (h : FAt w0 wr R T g W H n c px) (hq : ∀ i, i < n → qx i = px i) : FAt w0 wr R T g W H n c qx := ⟨h.ext, h.res, h.bk, h.row.congr hq, h.nT, h.nR, h.gn⟩
theorem FAt.step {w0 wr w2 : World} {R T g : Nat} {W H : Int} {n c : Nat} {px : Nat → P4} (h : FAt w0 wr R T g W H n c px) (hE : Ext wr w2) : FAt w0 w2 R T g W H n c px := ⟨h.ext.trans hE, h.res.ext hE, h.bk.ext hE, h.row.ext hE, h.nT, h.nR, h.gn⟩
theorem FAt.close {w0 wr : World} {R T g : Nat} {W H : Int} {n c : Nat} {px : Nat → P4} (h : FAt w0 wr R T g W H n c px) (hR : w0.heap.size ≤ R) :
    let wz := ((wr.setCell ⟨R, 0, none⟩ (.int .i64 W)).setCell ⟨R, 1, none⟩ (.int .i64 H)).setCell ⟨R, 2, none⟩ (.slice (some ⟨g, 0, none⟩) n c)
    wz.cell? ⟨R, 0, none⟩ = some (.int .i64 W) ∧ wz.cell? ⟨R, 1, none⟩ = some (.int .i64 H) ∧ wz.cell? ⟨R, 2, none⟩ = some (.slice (some ⟨g, 0, none⟩) n c) ∧ Po wz g n px ∧ Ext w0 wz := by
  obtain ⟨k0, k1, k2⟩ := h.res.pic.set (W' := W) (H' := H) (v' := .slice (some ⟨g, 0, none⟩) n c)
  exact ⟨k0, k1, k2, ((h.row.far h.nR _).far h.nR _).far h.nR _, h.ext.set3 hR _ _ _⟩
theorem ownsRow_ge {w : World} {base : Nat} {e : TypeId} {size : Nat} {g n m cap : Nat} {xs : List Value} (h : w.ownsRow base e size (.slice (some ⟨g, 0, none⟩) n cap) m xs) : base ≤ g := by
  rcases h.2 with ⟨h, _⟩ | ⟨g', cap', cur, hv, hb, _⟩
  · cases h
  · injection hv with hv; injection hv with hv; injection hv with hv; omega
/-- the pixels of Fill after k of them -/
def flP (W : Nat) (X Y RW RH : Int) (p : P4) (px : Nat → P4) (k i : Nat) : P4 := if i < k ∧ inR X Y RW RH ((i % W : Nat) : Int) ((i / W : Nat) : Int) = true then p else px i
theorem at_mod {W x y : Nat} (hx : x < W) : (y * W + x) % W = x ∧ (y * W + x) / W = y := by
  rw [Nat.mul_comm, Nat.mul_add_mod, Nat.mod_eq_of_lt hx, Nat.mul_add_div (by omega), Nat.div_eq_of_lt hx, Nat.add_zero]
  exact ⟨rfl, rfl⟩
theorem fl_no {W x y : Nat} {X Y RW RH : Int} {p : P4} {px : Nat → P4} (hx : x < W) (h : inR X Y RW RH (x : Int) (y : Int) = false) (i : Nat) : flP W X Y RW RH p px (y * W + x + 1) i = flP W X Y RW RH p px (y * W + x) i := by
  unfold flP
  by_cases e : i = y * W + x
  · subst e
    obtain ⟨e1, e2⟩ := at_mod (y := y) hx
    rw [e1, e2, h]; simp
  · have : (i < y * W + x + 1) ↔ (i < y * W + x) := by omega
    simp only [this]
theorem fl_yes {W x y : Nat} {X Y RW RH : Int} {p : P4} {px : Nat → P4} (hx : x < W) (h : inR X Y RW RH (x : Int) (y : Int) = true) (i : Nat) : flP W X Y RW RH p px (y * W + x + 1) i = upd (flP W X Y RW RH p px (y * W + x)) (y * W + x) p i := by
  unfold flP upd
  by_cases e : i = y * W + x
  · subst e
    obtain ⟨e1, e2⟩ := at_mod (y := y) hx
    rw [e1, e2, h]; simp
  · have : (i < y * W + x + 1) ↔ (i < y * W + x) := by omega
    simp only [this, if_neg e]

theorem fillOf_any (W H : Nat) (ad : Addr) (cap : Nat) (px : Nat → P4) (X Y RW RH : Int) (p : P4) (w : World) (hx : Pxs w (some ad) (W * H) px) (hW : 1 ≤ W ∧ W ≤ 256) (hH : 1 ≤ H ∧ H ≤ 256) (hn : (-10000 ≤ X ∧ X ≤ 10000) ∧ (-10000 ≤ Y ∧ Y ≤ 10000) ∧ (-10000 ≤ RW ∧ RW ≤ 10000) ∧ (-10000 ≤ RH ∧ RH ≤ 10000)) :
    Calls Tryd.prog 30 #[.agg #[.int .i64 (W : Int), .int .i64 (H : Int), .slice (some ad) (W * H) cap], .agg #[.int .i64 X, .int .i64 Y, .int .i64 RW, .int .i64 RH], .agg #[.int .u8 p.r, .int .u8 p.g, .int .u8 p.b, .int .u8 p.a]] w fun e w' => (∃ g c, e = .returned (.agg #[.int .i64 (W : Int), .int .i64 (H : Int), .slice (some ⟨g, 0, none⟩) (W * H) c]) ∧ Po w' g (W * H) (flP W X Y RW RH p px (H * W)) ∧ w.heap.size ≤ g) ∧ Ext w w' := by
  obtain ⟨hW1, hW2⟩ := hW
  obtain ⟨hH1, hH2⟩ := hH
  obtain ⟨⟨n1, n2⟩, ⟨n3, n4⟩, ⟨n5, n6⟩, n7, n8⟩ := hn
  have HX := Lib.hid hx
  have hWH : 0 < W * H := Nat.mul_pos hW1 hH1
  obtain ⟨N, hN⟩ : ∃ N, W * H = N := ⟨_, rfl⟩
  have hNl : N ≤ 65536 := by rw [← hN]; exact Nat.mul_le_mul hW2 hH2
  rw [hN] at hWH HX ⊢
  have NN := Lib.hid hN
  clear hN hx
  go_enter Tryd.func30, Tryd.ntmps30
  go_wp2_with fail
  refine calls_world (fun wz => Ext w wz ∧ wz.heap.size = w.heap.size + 1 + 1 + 1 + 1 ∧ Bk wz (w.heap.size) #[.int .i64 (W : Int), .int .i64 (H : Int), .slice (some ad) N cap] ∧ Bk wz (w.heap.size + 1) #[.int .i64 X, .int .i64 Y, .int .i64 RW, .int .i64 RH] ∧ Bk wz (w.heap.size + 1 + 1) #[.int .u8 p.r, .int .u8 p.g, .int .u8 p.b, .int .u8 p.a] ∧ Bk wz (w.heap.size + 1 + 1 + 1) #[.int .i64 0, .int .i64 0, .slice none 0 0]) ⟨by repeat (first | exact Ext.refl _ | refine Ext.alloc ?_ _), by simp, by repeat (first | exact Bk.at (by simp) | refine Bk.old ?_), by repeat (first | exact Bk.at (by simp) | refine Bk.old ?_), by repeat (first | exact Bk.at (by simp) | refine Bk.old ?_), by repeat (first | exact Bk.at (by simp) | refine Bk.old ?_)⟩ ?_
  rintro w1 ⟨hX, hZ, hB0, hB1, hB2, hB3⟩
  have X1 := Lib.hid hX
  have SZ := Lib.hid hZ
  have B0 := Lib.hid hB0
  have B1 := Lib.hid hB1
  have B2 := Lib.hid hB2
  have B3 := Lib.hid hB3
  clear hX hZ hB0 hB1 hB2 hB3
  refine (own_any _ _ (some ad) N cap px _ (HX.out.ext X1.out) (fun h => by cases h) (by omega)).mono ?_
  rintro e w2 ⟨⟨v, rfl, hown⟩, h⟩
  have X2 := Lib.hid (h)
  have OWN := Lib.hid (hown)
  clear h hown
  obtain ⟨g, c, rfl, _, hg⟩ := ownsRow_some OWN.out hWH
  have HG := Lib.hid (And.intro hg (ownsRow_ge OWN.out))
  clear hg
  go_wp2_with fail
  have E_ := (Ext.refl w2).alloc (.cells #[.int .i64 (W : Int), .int .i64 (H : Int), .slice (some ⟨g, 0, none⟩) N c] 24)
  have FA : Hid (FAt w (w2.alloc (.cells #[.int .i64 (W : Int), .int .i64 (H : Int), .slice (some ⟨g, 0, none⟩) N c] 24)) (w.heap.size + 1 + 1 + 1) w2.heap.size g (W : Int) (H : Int) N c (flP W X Y RW RH p px (0 * W))) := Lib.hid (by
    obtain ⟨q1, q2⟩ := HG.out
    have q3 := SZ.out
    refine FAt.congr (px := px) ⟨X1.out.trans (X2.out.trans E_), (B3.out.ext X2.out).ext E_, Bk.at rfl, (Po.of_own OWN.out).ext E_, by omega, by omega, by omega⟩ (fun i _ => ?_)
    unfold flP; rw [if_neg (by omega)])
  have B0' := Lib.hid (B0.out.ext (X2.out.trans E_))
  have B1' := Lib.hid (B1.out.ext (X2.out.trans E_))
  have B2' := Lib.hid (B2.out.ext (X2.out.trans E_))
  clear E_
  refine wp_world (fun wz => Hid (FAt w wz (w.heap.size + 1 + 1 + 1) w2.heap.size g (W : Int) (H : Int) N c (flP W X Y RW RH p px (0 * W))) ∧ Hid (Bk wz w.heap.size #[.int .i64 (W : Int), .int .i64 (H : Int), .slice (some ad) N cap]) ∧ Hid (Bk wz (w.heap.size + 1) #[.int .i64 X, .int .i64 Y, .int .i64 RW, .int .i64 RH]) ∧ Hid (Bk wz (w.heap.size + 1 + 1) #[.int .u8 p.r, .int .u8 p.g, .int .u8 p.b, .int .u8 p.a])) ⟨FA, B0', B1', B2'⟩ ?_
  obtain ⟨T, hT⟩ : ∃ T, w2.heap.size = T := ⟨_, rfl⟩
  rw [hT] at *
  have NB : Hid (w.heap.size ≠ g ∧ w.heap.size + 1 ≠ g ∧ w.heap.size + 1 + 1 ≠ g) := Lib.hid (by have := HG.out; have := SZ.out; omega)
  clear FA B0' B1' B2' OWN B0 B1 B2 B3 X1 X2 HG SZ hT
  rintro wz ⟨FA, B0, B1, B2⟩
  go_loopw [8] (fun cc wr => ∃ y : Nat, y ≤ H ∧ cc = .int .i64 y ∧ Hid (FAt w wr (w.heap.size + 1 + 1 + 1) T g (W : Int) (H : Int) N c (flP W X Y RW RH p px (y * W))) ∧ Hid (Bk wr w.heap.size #[.int .i64 (W : Int), .int .i64 (H : Int), .slice (some ad) N cap]) ∧ Hid (Bk wr (w.heap.size + 1) #[.int .i64 X, .int .i64 Y, .int .i64 RW, .int .i64 RH]) ∧ Hid (Bk wr (w.heap.size + 1 + 1) #[.int .u8 p.r, .int .u8 p.g, .int .u8 p.b, .int .u8 p.a])) (fun cc _ => H - (intOf cc).toNat)
  case atStart => exact ⟨0, by omega, rfl, FA, B0, B1, B2⟩
  case round =>
    clear FA B0 B1 B2
    obtain ⟨y, hy, rfl, FA, B0, B1, B2⟩ := hrel
    have b1 := B0.out.cell 1
    by_cases hlt : y < H
    · go_wp2_with fail
      clear b1
      go_loopw [9] (fun cc wr => ∃ x : Nat, x ≤ W ∧ cc = .int .i64 x ∧ Hid (FAt w wr (w.heap.size + 1 + 1 + 1) T g (W : Int) (H : Int) N c (flP W X Y RW RH p px (y * W + x))) ∧ Hid (Bk wr w.heap.size #[.int .i64 (W : Int), .int .i64 (H : Int), .slice (some ad) N cap]) ∧ Hid (Bk wr (w.heap.size + 1) #[.int .i64 X, .int .i64 Y, .int .i64 RW, .int .i64 RH]) ∧ Hid (Bk wr (w.heap.size + 1 + 1) #[.int .u8 p.r, .int .u8 p.g, .int .u8 p.b, .int .u8 p.a])) (fun cc _ => W - (intOf cc).toNat)
      case atStart => exact ⟨0, by omega, rfl, FA, B0, B1, B2⟩
      case round =>
        clear FA B0 B1 B2
        obtain ⟨x, hx, rfl, FA, B0, B1, B2⟩ := hrel
        have b0 := B0.out.cell 0
        by_cases hlx : x < W
        · have r0 := B1.out.cell 0
          have r1 := B1.out.cell 1
          have r2 := B1.out.cell 2
          have r3 := B1.out.cell 3
          by_cases i1 : X ≤ (x : Int)
          · have t1 : decide (X ≤ (x : Int)) = true := decide_eq_true i1
            by_cases i2 : (x : Int) - X < RW
            · have t2 : decide ((x : Int) - X < RW) = true := decide_eq_true i2
              by_cases i3 : Y ≤ (y : Int)
              · have t3 : decide (Y ≤ (y : Int)) = true := decide_eq_true i3
                by_cases i4 : (y : Int) - Y < RH
                · have t4 : decide ((y : Int) - Y < RH) = true := decide_eq_true i4
                  have HI : Hid (inR X Y RW RH (x : Int) (y : Int) = true) := Lib.hid (decide_eq_true (by omega))
                  clear i1 i2 i3 i4
                  have FN := Lib.hid ((FA.out.put (y * W + x) p).congr fun i _ => fl_yes hlx HI.out i)
                  have K := set4_keeps wr g (y * W + x) p
                  have B0N := Lib.hid (B0.out.keeps K NB.out.1)
                  have B1N := Lib.hid (B1.out.keeps K NB.out.2.1)
                  have B2N := Lib.hid (B2.out.keeps K NB.out.2.2)
                  have hk : y * W + x < N := by rw [← NN.out]; exact mul_lt_of hlt hlx
                  have hMI : (y : Int) * (W : Int) = ((y * W : Nat) : Int) := by simp
                  clear HI K
                  unfold set4 at *
                  obtain ⟨M, hM⟩ : ∃ M, y * W = M := ⟨_, rfl⟩
                  rw [hM] at FA FN B0N B1N B2N hk hMI
                  have MM := Lib.hid hM
                  clear hM
                  have p0 := B2.out.cell 0
                  have p1 := B2.out.cell 1
                  have p2 := B2.out.cell 2
                  have p3 := B2.out.cell 3
                  have k2 := FA.out.bk.cell 2
                  obtain ⟨c0, f0⟩ := FA.out.row ((M + x) * 4) (by omega)
                  obtain ⟨c1, f1⟩ := FA.out.row ((M + x) * 4 + 1) (by omega)
                  obtain ⟨c2, f2⟩ := FA.out.row ((M + x) * 4 + 2) (by omega)
                  obtain ⟨c3, f3⟩ := FA.out.row ((M + x) * 4 + 3) (by omega)
                  go_wp2_with fail
                  go_roundw
                  case rel => exact ⟨x + 1, by omega, by go_num, by rw [MM.out]; exact FN, B0N, B1N, B2N⟩
                  case measure => simp [intOf]; omega
                · have t4 : decide ((y : Int) - Y < RH) = false := decide_eq_false i4
                  have HI : Hid (inR X Y RW RH (x : Int) (y : Int) = false) := Lib.hid (decide_eq_false (by omega))
                  clear i1 i2 i3 i4
                  go_wp2_with fail
                  go_roundw
                  case rel => exact ⟨x + 1, by omega, by go_num, Lib.hid (FA.out.congr fun i _ => fl_no hlx HI.out i), B0, B1, B2⟩
                  case measure => simp [intOf]; omega
              · have t3 : decide (Y ≤ (y : Int)) = false := decide_eq_false i3
                have HI : Hid (inR X Y RW RH (x : Int) (y : Int) = false) := Lib.hid (decide_eq_false (by omega))
                clear i1 i2 i3
                go_wp2_with fail
                go_roundw
                case rel => exact ⟨x + 1, by omega, by go_num, Lib.hid (FA.out.congr fun i _ => fl_no hlx HI.out i), B0, B1, B2⟩
                case measure => simp [intOf]; omega
            · have t2 : decide ((x : Int) - X < RW) = false := decide_eq_false i2
              have HI : Hid (inR X Y RW RH (x : Int) (y : Int) = false) := Lib.hid (decide_eq_false (by omega))
              clear i1 i2
              go_wp2_with fail
              go_roundw
              case rel => exact ⟨x + 1, by omega, by go_num, Lib.hid (FA.out.congr fun i _ => fl_no hlx HI.out i), B0, B1, B2⟩
              case measure => simp [intOf]; omega
          · have t1 : decide (X ≤ (x : Int)) = false := decide_eq_false i1
            have HI : Hid (inR X Y RW RH (x : Int) (y : Int) = false) := Lib.hid (decide_eq_false (by omega))
            clear i1
            go_wp2_with fail
            go_roundw
            case rel => exact ⟨x + 1, by omega, by go_num, Lib.hid (FA.out.congr fun i _ => fl_no hlx HI.out i), B0, B1, B2⟩
            case measure => simp [intOf]; omega
        · obtain rfl : x = W := by omega
          go_wp2_with fail
          go_roundw
          case rel => exact ⟨y + 1, by omega, by go_num, by rw [Nat.succ_mul]; exact FA, B0, B1, B2⟩
          case measure => simp [intOf]; omega
    · obtain rfl : y = H := by omega
      have k0 := FA.out.bk.cell 0
      have k1 := FA.out.bk.cell 1
      have k2 := FA.out.bk.cell 2
      have d0 := FA.out.res.cell 0
      have d1 := FA.out.res.cell 1
      have d2 := FA.out.res.cell 2
      have e0 := FA.out.res.frozen 0
      have e1 := FA.out.res.frozen 1
      have e2 := FA.out.res.frozen 2
      have PC := Lib.hid (FA.out.close (by omega : w.heap.size ≤ w.heap.size + 1 + 1 + 1))
      have GN := Lib.hid FA.out.gn
      clear FA B0 B1 B2
      go_wp2_with fail
      obtain ⟨k0, k1, k2, hP, hX⟩ := PC.out
      exact bodyPost_ret (v := .agg #[.int .i64 (W : Int), .int .i64 (y : Int), .slice (some ⟨g, 0, none⟩) N c]) (by simp [results, Tryd.results30, go_sem, k0, k1, k2]) rfl ⟨⟨g, ⟨c, rfl⟩, hP, GN.out⟩, hX⟩
end Go.Proofs.YtkfjcgcgfdibaaaDoor
namespace Go.Proofs.YtkfjcgcgfdibaaaDoor
open Go.RowKit
set_option maxRecDepth 100000
/-- a row of pixels, known up to k -/
def upP (q : Nat → P4) (k i : Nat) : P4 := if i < k then q i else P4.zero
theorem upP_put (q : Nat → P4) (k i : Nat) : upP q (k + 1) i = upd (upP q k) k (q k) i := by
  unfold upP upd
  by_cases e : i = k
  · subst e; simp
  · have : (i < k + 1) ↔ (i < k) := by omega
    simp only [this, if_neg e]
theorem at_sum (x y W H X Y : Nat) (a : Addr) (c : Nat) (px : Nat → P4) (w : World) (hx : Pxs w (some a) (W * H) px) (hW : W ≤ 256) (hH : H ≤ 256) (hxW : X + x < W) (hyH : Y + y < H) :
    Calls Tryd.prog 67 #[.agg #[.int .i64 (W : Int), .int .i64 (H : Int), .slice (some a) (W * H) c], .int .i64 ((X : Int) + (x : Int)), .int .i64 ((Y : Int) + (y : Int))] w fun e w' => e = .returned (.agg #[.int .u8 (px ((y + Y) * W + (X + x))).r, .int .u8 (px ((y + Y) * W + (X + x))).g, .int .u8 (px ((y + Y) * W + (X + x))).b, .int .u8 (px ((y + Y) * W + (X + x))).a]) ∧ Ext w w' := by
  have h := at_any (X + x) (Y + y) W H a c px w hx hW hH hxW hyH
  rw [Int.natCast_add, Int.natCast_add, Nat.add_comm Y y] at h
  exact h
set_option linter.unusedSimpArgs false in
set_option maxHeartbeats 2000000 in
theorem cropOf_any (X Y RW RH W H : Nat) (ad : Addr) (cap : Nat) (px : Nat → P4) (w : World) (hx : Pxs w (some ad) (W * H) px) (hW : 1 ≤ W ∧ W ≤ 256) (hH : 1 ≤ H ∧ H ≤ 256) (h1 : 1 ≤ RW) (h2 : 1 ≤ RH) (h3 : X + RW ≤ W) (h4 : Y + RH ≤ H) :
    Calls Tryd.prog 32 #[.agg #[.int .i64 (W : Int), .int .i64 (H : Int), .slice (some ad) (W * H) cap], .agg #[.int .i64 (X : Int), .int .i64 (Y : Int), .int .i64 (RW : Int), .int .i64 (RH : Int)]] w fun e w' => (∃ g c, e = .returned (.agg #[.int .i64 (RW : Int), .int .i64 (RH : Int), .slice (some ⟨g, 0, none⟩) (RW * RH) c]) ∧ Po w' g (RW * RH) (lin RW fun x y => px ((y + Y) * W + (X + x))) ∧ w.heap.size ≤ g) ∧ Ext w w' := by
  obtain ⟨hW1, hW2⟩ := hW
  obtain ⟨hH1, hH2⟩ := hH
  have HX := Lib.hid hx
  obtain ⟨N, hN⟩ : ∃ N, RW * RH = N := ⟨_, rfl⟩
  have hNl : N ≤ 65536 := by rw [← hN]; exact Nat.mul_le_mul (show RW ≤ 256 by omega) (show RH ≤ 256 by omega)
  obtain ⟨M0, hM0⟩ : ∃ M0, W * H = M0 := ⟨_, rfl⟩
  have NM := Lib.hid hM0
  rw [hN, hM0]
  rw [hM0] at HX
  obtain ⟨q, hq⟩ : ∃ q, lin RW (fun x y => px ((y + Y) * W + (X + x))) = q := ⟨_, rfl⟩
  rw [hq]
  have HQ : Hid (∀ x y, x < RW → q (y * RW + x) = px ((y + Y) * W + (X + x))) := Lib.hid (fun x y h => by rw [← hq, lin_at RW _ x y h])
  have NN := Lib.hid hN
  clear hN hM0 hx hq
  go_enter Tryd.func32, Tryd.ntmps32
  go_wp2_with fail
  refine calls_world (fun wz => Ext w wz ∧ wz.heap.size = w.heap.size + 1 + 1 + 1 ∧ Bk wz (w.heap.size) #[.int .i64 (W : Int), .int .i64 (H : Int), .slice (some ad) M0 cap] ∧ Bk wz (w.heap.size + 1) #[.int .i64 (X : Int), .int .i64 (Y : Int), .int .i64 (RW : Int), .int .i64 (RH : Int)] ∧ Bk wz (w.heap.size + 1 + 1) #[.int .i64 0, .int .i64 0, .slice none 0 0]) ⟨by repeat (first | exact Ext.refl _ | refine Ext.alloc ?_ _), by simp, by repeat (first | exact Bk.at (by simp) | refine Bk.old ?_), by repeat (first | exact Bk.at (by simp) | refine Bk.old ?_), by repeat (first | exact Bk.at (by simp) | refine Bk.old ?_)⟩ ?_
  rintro w1 ⟨hX, hZ, hB0, hB1, hB2⟩
  have X1 := Lib.hid hX
  have SZ := Lib.hid hZ
  have B0 := Lib.hid hB0
  have B1 := Lib.hid hB1
  have B3 := Lib.hid hB2
  clear hX hZ hB0 hB1 hB2
  have HWH := Lib.hid (show (1 ≤ RW ∧ RW ≤ 256) ∧ (1 ≤ RH ∧ RH ≤ 256) from ⟨⟨h1, by omega⟩, h2, by omega⟩)
  have HBK := Lib.hid (blank_any RW RH P4.zero w1 HWH.out.1 HWH.out.2)
  rw [NN.out] at HBK
  refine HBK.out.mono ?_
  clear HBK
  rintro e w2 ⟨⟨g, rfl, hpo, hg⟩, h⟩
  have X2 := Lib.hid h
  have HP := Lib.hid hpo
  have HG : Hid (w1.heap.size ≤ g ∧ g < w2.heap.size) := Lib.hid (And.intro hg (World.block_lt_of_cell? _ _ (hpo 0 (by
    rw [← NN.out]
    have : 0 < RW * RH := Nat.mul_pos h1 h2
    omega)).1))
  clear h hpo hg
  go_wp2_with fail
  have E_ := (Ext.refl w2).alloc (.cells #[.int .i64 (RW : Int), .int .i64 (RH : Int), .slice (some ⟨g, 0, none⟩) N N] 24)
  have FA : Hid (FAt w (w2.alloc (.cells #[.int .i64 (RW : Int), .int .i64 (RH : Int), .slice (some ⟨g, 0, none⟩) N N] 24)) (w.heap.size + 1 + 1) w2.heap.size g (RW : Int) (RH : Int) N N (upP q (0 * RW))) := Lib.hid (by
    obtain ⟨q1, q2⟩ := HG.out
    have q3 := SZ.out
    refine FAt.congr (px := fun _ => P4.zero) ⟨X1.out.trans (X2.out.trans E_), (B3.out.ext X2.out).ext E_, Bk.at rfl, HP.out.ext E_, by omega, by omega, by omega⟩ (fun i _ => ?_)
    unfold upP; rw [if_neg (by omega)])
  have B0' := Lib.hid (B0.out.ext (X2.out.trans E_))
  have B1' := Lib.hid (B1.out.ext (X2.out.trans E_))
  clear E_
  refine wp_world (fun wz => Hid (FAt w wz (w.heap.size + 1 + 1) w2.heap.size g (RW : Int) (RH : Int) N N (upP q (0 * RW))) ∧ Hid (Bk wz w.heap.size #[.int .i64 (W : Int), .int .i64 (H : Int), .slice (some ad) M0 cap]) ∧ Hid (Bk wz (w.heap.size + 1) #[.int .i64 (X : Int), .int .i64 (Y : Int), .int .i64 (RW : Int), .int .i64 (RH : Int)])) ⟨FA, B0', B1'⟩ ?_
  obtain ⟨T, hT⟩ : ∃ T, w2.heap.size = T := ⟨_, rfl⟩
  rw [hT] at *
  have NB : Hid (w.heap.size ≠ g ∧ w.heap.size + 1 ≠ g) := Lib.hid (by have := HG.out; have := SZ.out; omega)
  clear FA B0' B1' HP B0 B1 B3 X1 X2 HG SZ hT HWH
  rintro wz ⟨FA, B0, B1⟩
  go_loopw [6] (fun cc wr => ∃ y : Nat, y ≤ RH ∧ cc = .int .i64 y ∧ Hid (FAt w wr (w.heap.size + 1 + 1) T g (RW : Int) (RH : Int) N N (upP q (y * RW))) ∧ Hid (Bk wr w.heap.size #[.int .i64 (W : Int), .int .i64 (H : Int), .slice (some ad) M0 cap]) ∧ Hid (Bk wr (w.heap.size + 1) #[.int .i64 (X : Int), .int .i64 (Y : Int), .int .i64 (RW : Int), .int .i64 (RH : Int)])) (fun cc _ => RH - (intOf cc).toNat)
  case atStart => exact ⟨0, by omega, rfl, FA, B0, B1⟩
  case round =>
    clear FA B0 B1
    obtain ⟨y, hy, rfl, FA, B0, B1⟩ := hrel
    have b3 := B1.out.cell 3
    by_cases hlt : y < RH
    · go_wp2_with fail
      clear b3
      go_loopw [7] (fun cc wr => ∃ x : Nat, x ≤ RW ∧ cc = .int .i64 x ∧ Hid (FAt w wr (w.heap.size + 1 + 1) T g (RW : Int) (RH : Int) N N (upP q (y * RW + x))) ∧ Hid (Bk wr w.heap.size #[.int .i64 (W : Int), .int .i64 (H : Int), .slice (some ad) M0 cap]) ∧ Hid (Bk wr (w.heap.size + 1) #[.int .i64 (X : Int), .int .i64 (Y : Int), .int .i64 (RW : Int), .int .i64 (RH : Int)])) (fun cc _ => RW - (intOf cc).toNat)
      case atStart => exact ⟨0, by omega, rfl, FA, B0, B1⟩
      case round =>
        clear FA B0 B1
        obtain ⟨x, hx, rfl, FA, B0, B1⟩ := hrel
        have b2 := B1.out.cell 2
        by_cases hlx : x < RW
        · have HPX : Hid (Pxs wr (some ad) (W * H) px) := Lib.hid (by rw [NM.out]; exact HX.out.ext FA.out.ext)
          obtain ⟨P, hP⟩ : ∃ P, px ((y + Y) * W + (X + x)) = P := ⟨_, rfl⟩
          have HQ1 : Hid (q (y * RW + x) = P) := Lib.hid ((HQ.out x y hlx).trans hP)
          have HAT : Hid (∀ w5, Ext wr w5 → Calls Tryd.prog 67 #[.agg #[.int .i64 (W : Int), .int .i64 (H : Int), .slice (some ad) M0 cap], .int .i64 ((X : Int) + (x : Int)), .int .i64 ((Y : Int) + (y : Int))] w5 fun e w' => e = .returned (.agg #[.int .u8 P.r, .int .u8 P.g, .int .u8 P.b, .int .u8 P.a]) ∧ Ext w5 w') := Lib.hid (fun w5 h5 => by
            have h := at_sum x y W H X Y ad cap px w5 (HPX.out.ext h5) hW2 hH2 (by omega) (by omega)
            rw [hP, NM.out] at h
            exact h)
          clear hP
          have hk : y * RW + x < N := by rw [← NN.out]; exact mul_lt_of hlt hlx
          have hMI : (y : Int) * (RW : Int) = ((y * RW : Nat) : Int) := by simp
          obtain ⟨M, hM⟩ : ∃ M, y * RW = M := ⟨_, rfl⟩
          rw [hM] at FA hk hMI HQ1
          have MM := Lib.hid hM
          have b0 := B1.out.cell 0
          have b1 := B1.out.cell 1
          have p0 := B0.out.cell 0
          have p1 := B0.out.cell 1
          have p2 := B0.out.cell 2
          have k2 := FA.out.bk.cell 2
          clear hM HPX
          have w1_ : IntKind.i64.wrap (M : Int) = (M : Int) := by unfold IntKind.wrap; simp [IntKind.bits, IntKind.signed]; omega
          have w2_ : IntKind.i64.wrap ((M : Int) + (x : Int)) = (M : Int) + (x : Int) := by unfold IntKind.wrap; simp [IntKind.bits, IntKind.signed]; omega
          have w3_ : IntKind.i64.wrap ((X : Int) + (x : Int)) = (X : Int) + (x : Int) := by unfold IntKind.wrap; simp [IntKind.bits, IntKind.signed]; omega
          have w4_ : IntKind.i64.wrap ((Y : Int) + (y : Int)) = (Y : Int) + (y : Int) := by unfold IntKind.wrap; simp [IntKind.bits, IntKind.signed]; omega
          have w5_ : ((M : Int) + (x : Int)).toNat = M + x := by omega
          have w6_ : ((M : Int) + (x : Int) < (N : Int)) := by omega
          have w7_ : 0 ≤ (M : Int) + (x : Int) := by omega
          go_wp2_with fail

          refine wp_region_held_drew (S := fun w' => w'.cell? ⟨w.heap.size, 0, none⟩ = some (.int .i64 (W : Int)) ∧ w'.cell? ⟨w.heap.size, 1, none⟩ = some (.int .i64 (H : Int)) ∧ w'.cell? ⟨w.heap.size, 2, none⟩ = some (.slice (some ad) M0 cap) ∧ w'.cell? ⟨w.heap.size + 1, 0, none⟩ = some (.int .i64 (X : Int)) ∧ w'.cell? ⟨w.heap.size + 1, 1, none⟩ = some (.int .i64 (Y : Int)) ∧ w'.cell? ⟨w.heap.size + 1, 2, none⟩ = some (.int .i64 (RW : Int)) ∧ w'.cell? ⟨T, 2, none⟩ = some (.slice (some ⟨g, 0, none⟩) N N)) (by kernel_rfl) ⟨p0, p1, p2, b0, b1, b2, k2⟩ (fun hHeld => ?_)
          refine wpAnyH_take (i := 0) (v := ?_) rfl (by kernel_rfl) (by kernel_rfl) (by kernel_rfl) (fun _ _ _ h => h) (Or.inl ⟨by kernel_rfl, ?_⟩) hHeld ?_
          rotate_left
          · intro w hSw
            (try dsimp only at hSw)
            go_split_ands
            go_simp
            (try with_reducible rfl)
          try simp only [Act.put, List.setIfInBounds_toArray, List.set_cons_zero, List.set_cons_succ]
          refine wpAnyH_take (i := 1) (v := ?_) rfl (by kernel_rfl) (by kernel_rfl) (by kernel_rfl) (fun _ _ _ h => h) (Or.inl ⟨by kernel_rfl, ?_⟩) hHeld ?_
          rotate_left
          · intro w hSw
            (try dsimp only at hSw)
            go_split_ands
            go_simp
            (try with_reducible rfl)
          try simp only [Act.put, List.setIfInBounds_toArray, List.set_cons_zero, List.set_cons_succ]
          refine wpAnyH_take (i := 2) (v := ?_) rfl (by kernel_rfl) (by kernel_rfl) (by kernel_rfl) (fun _ _ _ h => h) (Or.inl ⟨by kernel_rfl, ?_⟩) hHeld ?_
          rotate_left
          · intro w hSw
            (try dsimp only at hSw)
            go_split_ands
            go_simp
            (try with_reducible rfl)
          try simp only [Act.put, List.setIfInBounds_toArray, List.set_cons_zero, List.set_cons_succ]
          refine wpAnyH_take (i := 3) (v := ?_) rfl (by kernel_rfl) (by kernel_rfl) (by kernel_rfl) (fun _ _ _ h => h) (Or.inl ⟨by kernel_rfl, ?_⟩) hHeld ?_
          rotate_left
          · intro w hSw
            (try dsimp only at hSw)
            go_split_ands
            go_simp
            (try with_reducible rfl)
          try simp only [Act.put, List.setIfInBounds_toArray, List.set_cons_zero, List.set_cons_succ]
          refine wpAnyH_take (i := 4) (v := ?_) rfl (by kernel_rfl) (by kernel_rfl) (by kernel_rfl) (fun _ _ _ h => h) (Or.inl ⟨by kernel_rfl, ?_⟩) hHeld ?_
          rotate_left
          · intro w hSw
            (try dsimp only at hSw)
            go_split_ands
            go_simp
            (try with_reducible rfl)
          try simp only [Act.put, List.setIfInBounds_toArray, List.set_cons_zero, List.set_cons_succ]
          refine wpAnyH_take (i := 5) (v := ?_) rfl (by kernel_rfl) (by kernel_rfl) (by kernel_rfl) (fun _ _ _ h => h) (Or.inl ⟨by kernel_rfl, ?_⟩) hHeld ?_
          rotate_left
          · intro w hSw
            (try dsimp only at hSw)
            go_split_ands
            go_simp
            (try with_reducible rfl)
          try simp only [Act.put, List.setIfInBounds_toArray, List.set_cons_zero, List.set_cons_succ]
          refine wpAnyH_take (i := 6) (v := ?_) rfl (by kernel_rfl) (by kernel_rfl) (by kernel_rfl) (fun _ _ _ h => h) (Or.inl ⟨by kernel_rfl, ?_⟩) hHeld ?_
          rotate_left
          · intro w hSw
            (try dsimp only at hSw)
            go_split_ands
            go_simp
            (try with_reducible rfl)
          try simp only [Act.put, List.setIfInBounds_toArray, List.set_cons_zero, List.set_cons_succ]
          refine wpAnyH_take (i := 7) (v := ?_) rfl (by kernel_rfl) (by kernel_rfl) (by kernel_rfl) (fun _ _ _ h => h) (Or.inl ⟨by kernel_rfl, ?_⟩) hHeld ?_
          rotate_left
          · intro w hSw
            (try dsimp only at hSw)
            go_split_ands
            go_simp
            (try with_reducible rfl)
          try simp only [Act.put, List.setIfInBounds_toArray, List.set_cons_zero, List.set_cons_succ]
          refine wpAnyH_take (i := 8) (v := ?_) rfl (by kernel_rfl) (by kernel_rfl) (by kernel_rfl) (fun _ _ _ h => h) (Or.inl ⟨by kernel_rfl, ?_⟩) hHeld ?_
          rotate_left
          · intro w hSw
            (try dsimp only at hSw)
            go_split_ands
            go_simp
            (try with_reducible rfl)
          try simp only [Act.put, List.setIfInBounds_toArray, List.set_cons_zero, List.set_cons_succ]
          refine wpAnyH_take (i := 9) (v := ?_) rfl (by kernel_rfl) (by kernel_rfl) (by kernel_rfl) (fun _ _ _ h => h) (Or.inl ⟨by kernel_rfl, ?_⟩) hHeld ?_
          rotate_left
          · intro w hSw
            (try dsimp only at hSw)
            go_split_ands
            go_simp
            (try with_reducible rfl)
          try simp only [Act.put, List.setIfInBounds_toArray, List.set_cons_zero, List.set_cons_succ]
          refine wpAnyH_take (i := 10) (v := ?_) rfl (by kernel_rfl) (by kernel_rfl) (by kernel_rfl) (fun _ _ _ h => h) (Or.inl ⟨by kernel_rfl, ?_⟩) hHeld ?_
          rotate_left
          · intro w hSw
            (try dsimp only at hSw)
            go_split_ands
            go_simp
            (try with_reducible rfl)
          try simp only [Act.put, List.setIfInBounds_toArray, List.set_cons_zero, List.set_cons_succ]
          refine wpAnyH_take (i := 11) (v := ?_) rfl (by kernel_rfl) (by kernel_rfl) (by kernel_rfl) (fun _ _ _ h => h) (Or.inl ⟨by kernel_rfl, ?_⟩) hHeld ?_
          rotate_left
          · intro w hSw
            (try dsimp only at hSw)
            go_split_ands
            go_simp
            (try with_reducible rfl)
          try simp only [Act.put, List.setIfInBounds_toArray, List.set_cons_zero, List.set_cons_succ]
          refine wpAnyH_take (i := 12) (v := ?_) rfl (by kernel_rfl) (by kernel_rfl) (by kernel_rfl) (fun _ _ _ h => h) (Or.inl ⟨by kernel_rfl, ?_⟩) hHeld ?_
          rotate_left
          · intro w hSw
            (try dsimp only at hSw)
            go_split_ands
            go_simp
            (try with_reducible rfl)
          try simp only [Act.put, List.setIfInBounds_toArray, List.set_cons_zero, List.set_cons_succ]
          refine wpAnyH_take (i := 13) (v := ?_) rfl (by kernel_rfl) (by kernel_rfl) (by kernel_rfl) (fun _ _ _ h => h) (Or.inl ⟨by kernel_rfl, ?_⟩) hHeld ?_
          rotate_left
          · intro w hSw
            (try dsimp only at hSw)
            go_split_ands
            go_simp
            (try with_reducible rfl)
          try simp only [Act.put, List.setIfInBounds_toArray, List.set_cons_zero, List.set_cons_succ]
          refine wpAnyH_take (i := 14) (v := ?_) rfl (by kernel_rfl) (by kernel_rfl) (by kernel_rfl) (fun _ _ _ h => h) (Or.inl ⟨by kernel_rfl, ?_⟩) hHeld ?_
          rotate_left
          · intro w hSw
            (try dsimp only at hSw)
            go_split_ands
            go_simp
            (try with_reducible rfl)
          try simp only [Act.put, List.setIfInBounds_toArray, List.set_cons_zero, List.set_cons_succ]
          refine wpAnyH_take (i := 15) (v := ?_) rfl (by kernel_rfl) (by kernel_rfl) (by kernel_rfl) (fun _ _ _ h => h) (Or.inl ⟨by kernel_rfl, ?_⟩) hHeld ?_
          rotate_left
          · intro w hSw
            (try dsimp only at hSw)
            go_split_ands
            go_simp
            (try with_reducible rfl)
          try simp only [Act.put, List.setIfInBounds_toArray, List.set_cons_zero, List.set_cons_succ]
          refine wpAnyH_take (i := 16) (v := ?_) rfl (by kernel_rfl) (by kernel_rfl) (by kernel_rfl) (fun _ _ _ h => h) (Or.inl ⟨by kernel_rfl, ?_⟩) hHeld ?_
          rotate_left
          · intro w hSw
            (try dsimp only at hSw)
            go_split_ands
            go_simp
            (try with_reducible rfl)
          try simp only [Act.put, List.setIfInBounds_toArray, List.set_cons_zero, List.set_cons_succ]
          refine wpAnyH_ready (rs := [17]) (by kernel_rfl) (by simp) ?_
          refine AllReadyH.cons rfl (fun K hK => ?_) AllReadyH.nil
          clear hHeld
          go_simp
          refine (HAT.out _ (by first | exact Ext.refl _ | exact Below.drew (Ext.refl wr))).mono ?_
          rintro e w5 ⟨rfl, hx5⟩
          have ha : Ext wr w5 := ⟨hx5.os, hx5.tape, hx5.output, hx5.size, hx5.block⟩
          clear hx5
          go_simp
          refine hK.out _ _ ⟨(B0.out.ext ha).cell 0, (B0.out.ext ha).cell 1, (B0.out.ext ha).cell 2, (B1.out.ext ha).cell 0, (B1.out.ext ha).cell 1, (B1.out.ext ha).cell 2, (FA.out.bk.ext ha).cell 2⟩ (fun hHeld => ?_)
          clear hK K
          try simp only [Act.put, List.setIfInBounds_toArray, List.set_cons_zero, List.set_cons_succ]
          refine wpAnyH_take (i := 18) (v := ?_) rfl (by kernel_rfl) (by kernel_rfl) (by kernel_rfl) (fun _ _ _ h => h) (Or.inl ⟨by kernel_rfl, ?_⟩) hHeld ?_
          rotate_left
          · intro w hSw
            (try dsimp only at hSw)
            go_split_ands
            go_simp
            (try with_reducible rfl)
          try simp only [Act.put, List.setIfInBounds_toArray, List.set_cons_zero, List.set_cons_succ]
          have FA5 := Lib.hid (FA.out.step ha)
          have B05 := Lib.hid (B0.out.ext ha)
          have B15 := Lib.hid (B1.out.ext ha)
          clear ha FA B0 B1
          obtain ⟨c0, f0⟩ := FA5.out.row ((M + x) * 4) (by omega)
          obtain ⟨c1, f1⟩ := FA5.out.row ((M + x) * 4 + 1) (by omega)
          obtain ⟨c2, f2⟩ := FA5.out.row ((M + x) * 4 + 2) (by omega)
          obtain ⟨c3, f3⟩ := FA5.out.row ((M + x) * 4 + 3) (by omega)
          have FN := Lib.hid ((FA5.out.put (M + x) P).congr fun i _ => (upP_put q (M + x) i).trans (by rw [HQ1.out]))
          have K := set4_keeps w5 g (M + x) P
          have B0N := Lib.hid (B05.out.keeps K NB.out.1)
          have B1N := Lib.hid (B15.out.keeps K NB.out.2)
          clear K
          unfold set4 at FN B0N B1N
          refine wpAnyH_ready (rs := [19]) (by kernel_rfl) (by simp) ?_
          refine AllReadyH.cons rfl (fun K hK => ?_) AllReadyH.nil
          clear hHeld
          go_simp
          refine hK.out _ _ ⟨B0N.out.cell 0, B0N.out.cell 1, B0N.out.cell 2, B1N.out.cell 0, B1N.out.cell 1, B1N.out.cell 2, FN.out.bk.cell 2⟩ (fun hHeld => ?_)
          clear hK K
          try simp only [Act.put, List.setIfInBounds_toArray, List.set_cons_zero, List.set_cons_succ]
          refine wpAnyH_done (by kernel_rfl) ?_ _
          clear hHeld
          go_wp2_with fail
          go_roundw
          case rel => exact ⟨x + 1, by omega, by go_num, by rw [MM.out]; exact FN, B0N, B1N⟩
          case measure => simp [intOf]; omega
        · obtain rfl : x = RW := by omega
          go_wp2_with fail
          go_roundw
          case rel => exact ⟨y + 1, by omega, by go_num, by rw [Nat.succ_mul]; exact FA, B0, B1⟩
          case measure => simp [intOf]; omega
    · obtain rfl : y = RH := by omega
      have k0 := FA.out.bk.cell 0
      have k1 := FA.out.bk.cell 1
      have k2 := FA.out.bk.cell 2
      have d0 := FA.out.res.cell 0
      have d1 := FA.out.res.cell 1
      have d2 := FA.out.res.cell 2
      have e0 := FA.out.res.frozen 0
      have e1 := FA.out.res.frozen 1
      have e2 := FA.out.res.frozen 2
      have hyn : y * RW = N := by rw [Nat.mul_comm]; exact NN.out
      rw [hyn] at FA
      have PC := Lib.hid ((FA.out.congr (qx := q) (fun i hi => by unfold upP; rw [if_pos hi])).close (by omega : w.heap.size ≤ w.heap.size + 1 + 1))
      have GN := Lib.hid FA.out.gn
      clear FA B0 B1 hyn
      go_wp2_with fail
      obtain ⟨k0, k1, k2, hP, hX⟩ := PC.out
      exact bodyPost_ret (v := .agg #[.int .i64 (RW : Int), .int .i64 (y : Int), .slice (some ⟨g, 0, none⟩) N N]) (by simp [results, Tryd.results32, go_sem, k0, k1, k2]) rfl ⟨⟨g, ⟨N, rfl⟩, hP, GN.out⟩, hX⟩
end Go.Proofs.YtkfjcgcgfdibaaaDoor
namespace Go.Proofs.YtkfjcgcgfdibaaaDoor.Fl
set_option maxRecDepth 100000
/-- a neighbour: left, right, above, below -/
def Nb (u v u' v' : Nat) : Prop := (u' + 1 = u ∧ v' = v) ∨ (u' = u + 1 ∧ v' = v) ∨ (u' = u ∧ v' + 1 = v) ∨ (u' = u ∧ v' = v + 1)
inductive Rch (W H : Nat) (ok : Nat → Nat → Prop) (u0 v0 : Nat) : Nat → Nat → Prop
  | start : Rch W H ok u0 v0 u0 v0
  | step {u v u' v' : Nat} : Rch W H ok u0 v0 u v → Nb u v u' v' → u' < W → v' < H → ok u' v' → Rch W H ok u0 v0 u' v'
theorem Rch.inb {W H u0 v0 u v : Nat} {ok : Nat → Nat → Prop} (h : Rch W H ok u0 v0 u v) (h0 : u0 < W ∧ v0 < H) : u < W ∧ v < H := by
  cases h with
  | start => exact h0
  | step _ _ h1 h2 _ => exact ⟨h1, h2⟩
def setF (F : Nat → Bool) (k : Nat) : Nat → Bool := fun i => if i = k then true else F i
/-- how many are not in yet -/
def cnt (F : Nat → Bool) : Nat → Nat
  | 0 => 0
  | n + 1 => cnt F n + (if F n then 0 else 1)
theorem cnt_le (F : Nat → Bool) : ∀ n, cnt F n ≤ n := by
  intro n
  induction n with
  | zero => exact Nat.le_refl _
  | succ n ih => simp only [cnt]; split <;> omega
theorem cnt_far {F : Nat → Bool} {k : Nat} : ∀ {n : Nat}, n ≤ k → cnt (setF F k) n = cnt F n := by
  intro n
  induction n with
  | zero => intro _; rfl
  | succ n ih => intro h; simp only [cnt]; rw [ih (by omega), show setF F k n = F n from if_neg (by omega)]
theorem cnt_set {F : Nat → Bool} {k : Nat} (hF : F k = false) : ∀ {n : Nat}, k < n → cnt (setF F k) n + 1 = cnt F n := by
  intro n
  induction n with
  | zero => intro h; omega
  | succ n ih =>
    intro h
    simp only [cnt]
    rcases Nat.lt_or_ge k n with q | q
    · have := ih q
      have e : setF F k n = F n := by unfold setF; rw [if_neg (by omega)]
      rw [e]; omega
    · obtain rfl : k = n := by omega
      rw [cnt_far (Nat.le_refl _), hF]
      have e : setF F k k = true := if_pos rfl
      rw [e]; simp
theorem lin1 {W u v u' v' : Nat} (hu : u < W) (hu' : u' < W) (h : v * W + u = v' * W + u') : u = u' ∧ v = v' := by
  have a : (v * W + u) % W = u := by rw [Nat.mul_comm, Nat.mul_add_mod, Nat.mod_eq_of_lt hu]
  have b : (v' * W + u') % W = u' := by rw [Nat.mul_comm, Nat.mul_add_mod, Nat.mod_eq_of_lt hu']
  have c : (v * W + u) / W = v := by rw [Nat.mul_comm, Nat.mul_add_div (by omega), Nat.div_eq_of_lt hu, Nat.add_zero]
  have d : (v' * W + u') / W = v' := by rw [Nat.mul_comm, Nat.mul_add_div (by omega), Nat.div_eq_of_lt hu', Nat.add_zero]
  rw [h] at a c
  exact ⟨a.symm.trans b, c.symm.trans d⟩
theorem set_at {F : Nat → Bool} {W u v u' v' : Nat} (hu : u < W) (hu' : u' < W) (h : setF F (v * W + u) (v' * W + u') = true) : (u' = u ∧ v' = v) ∨ F (v' * W + u') = true := by
  unfold setF at h
  split at h
  · rename_i e; exact .inl (lin1 hu' hu e)
  · exact .inr h
theorem set_old {F : Nat → Bool} {k i : Nat} (h : F i = true) : setF F k i = true := by unfold setF; split; rfl; exact h
/-- the search with a heap of places still to do -/
structure Dfs (W H : Nat) (ok : Nat → Nat → Prop) (u0 v0 : Nat) (F : Nat → Bool) (st : List (Int × Int)) : Prop where
  sound : ∀ u v, u < W → v < H → F (v * W + u) = true → Rch W H ok u0 v0 u v
  stk : ∀ u v : Nat, ((u : Int), (v : Int)) ∈ st → u < W → v < H → ok u v → Rch W H ok u0 v0 u v
  clos : ∀ u v u' v', u < W → v < H → u' < W → v' < H → F (v * W + u) = true → Nb u v u' v' → ok u' v' → F (v' * W + u') = true ∨ ((u' : Int), (v' : Int)) ∈ st
  root : F (v0 * W + u0) = true ∨ ((u0 : Int), (v0 : Int)) ∈ st
theorem Dfs.start (W H : Nat) (ok : Nat → Nat → Prop) (u0 v0 : Nat) : Dfs W H ok u0 v0 (fun _ => false) [((u0 : Int), (v0 : Int))] := by
  refine ⟨fun u v _ _ h => by simp at h, fun u v h _ _ _ => ?_, fun u v u' v' _ _ _ _ h => by simp at h, .inr (by simp)⟩
  simp only [List.mem_singleton, Prod.mk.injEq] at h
  obtain ⟨h1, h2⟩ := h
  obtain rfl : u = u0 := by omega
  obtain rfl : v = v0 := by omega
  exact .start
theorem Dfs.skip {W H u0 v0 : Nat} {ok : Nat → Nat → Prop} {F : Nat → Bool} {st : List (Int × Int)} {x y : Int} (h : Dfs W H ok u0 v0 F (st ++ [(x, y)])) (h0 : u0 < W ∧ v0 < H) (hok : ok u0 v0)
    (hp : ∀ u v : Nat, x = (u : Int) → y = (v : Int) → u < W → v < H → ok u v → F (v * W + u) = true) : Dfs W H ok u0 v0 F st := by
  have mem : ∀ u v : Nat, ((u : Int), (v : Int)) ∈ st ++ [(x, y)] → u < W → v < H → ok u v → F (v * W + u) = true ∨ ((u : Int), (v : Int)) ∈ st := by
    intro u v hm hu hv ho
    rcases List.mem_append.1 hm with q | q
    · exact .inr q
    · simp only [List.mem_singleton, Prod.mk.injEq] at q
      exact .inl (hp u v q.1.symm q.2.symm hu hv ho)
  refine ⟨h.sound, fun u v hm => h.stk u v (List.mem_append_left _ hm), fun u v u' v' a b c d e f g => ?_, ?_⟩
  · rcases h.clos u v u' v' a b c d e f g with q | q
    · exact .inl q
    · exact mem u' v' q c d g
  · rcases h.root with q | q
    · exact .inl q
    · exact mem u0 v0 q h0.1 h0.2 hok
def four (x y : Int) : List (Int × Int) := [(x - 1, y), (x + 1, y), (x, y - 1), (x, y + 1)]
theorem Dfs.fill {W H u0 v0 u v : Nat} {ok : Nat → Nat → Prop} {F : Nat → Bool} {st : List (Int × Int)} (h : Dfs W H ok u0 v0 F (st ++ [((u : Int), (v : Int))])) (hu : u < W) (hv : v < H) (ho : ok u v) :
    Dfs W H ok u0 v0 (setF F (v * W + u)) (st ++ four u v) := by
  have hR := h.stk u v (List.mem_append_right _ (List.mem_singleton.2 rfl)) hu hv ho
  have mem : ∀ u' v' : Nat, ((u' : Int), (v' : Int)) ∈ st ++ [((u : Int), (v : Int))] → setF F (v * W + u) (v' * W + u') = true ∨ ((u' : Int), (v' : Int)) ∈ st ++ four u v := by
    intro u' v' hm
    rcases List.mem_append.1 hm with q | q
    · exact .inr (List.mem_append_left _ q)
    · simp only [List.mem_singleton, Prod.mk.injEq] at q
      obtain rfl : u' = u := by omega
      obtain rfl : v' = v := by omega
      exact .inl (if_pos rfl)
  refine ⟨fun a b ha hb hF => ?_, fun a b hm ha hb hab => ?_, fun a b a' b' ha hb ha' hb' hF hn hab => ?_, ?_⟩
  · rcases set_at hu ha hF with ⟨rfl, rfl⟩ | q
    · exact hR
    · exact h.sound a b ha hb q
  · rcases List.mem_append.1 hm with q | q
    · exact h.stk a b (List.mem_append_left _ q) ha hb hab
    · unfold four at q
      simp only [List.mem_cons, Prod.mk.injEq, List.not_mem_nil, or_false] at q
      refine .step hR ?_ ha hb hab
      unfold Nb
      omega
  · rcases set_at hu ha hF with ⟨rfl, rfl⟩ | q
    · right
      apply List.mem_append_right
      unfold Nb at hn
      unfold four
      simp only [List.mem_cons, Prod.mk.injEq, List.not_mem_nil, or_false]
      omega
    · rcases h.clos a b a' b' ha hb ha' hb' q hn hab with r | r
      · exact .inl (set_old r)
      · exact mem a' b' r
  · rcases h.root with q | q
    · exact .inl (set_old q)
    · exact mem u0 v0 q
/-- closed and sound: what can be reached -/
theorem closed_iff {W H u0 v0 : Nat} {ok : Nat → Nat → Prop} {F : Nat → Bool} (h0 : u0 < W ∧ v0 < H) (hs : ∀ u v, u < W → v < H → F (v * W + u) = true → Rch W H ok u0 v0 u v) (hr : F (v0 * W + u0) = true)
    (hc : ∀ u v u' v', u < W → v < H → u' < W → v' < H → F (v * W + u) = true → Nb u v u' v' → ok u' v' → F (v' * W + u') = true) {u v : Nat} (hu : u < W) (hv : v < H) : F (v * W + u) = true ↔ Rch W H ok u0 v0 u v := by
  refine ⟨hs u v hu hv, fun h => ?_⟩
  clear hu hv
  induction h with
  | start => exact hr
  | step hab hn h1 h2 h3 ih => exact hc _ _ _ _ (hab.inb h0).1 (hab.inb h0).2 h1 h2 ih hn h3
theorem Dfs.done {W H u0 v0 : Nat} {ok : Nat → Nat → Prop} {F : Nat → Bool} (h : Dfs W H ok u0 v0 F []) (h0 : u0 < W ∧ v0 < H) {u v : Nat} (hu : u < W) (hv : v < H) : F (v * W + u) = true ↔ Rch W H ok u0 v0 u v :=
  closed_iff h0 h.sound (by rcases h.root with q | q; exact q; cases q) (fun u v u' v' a b c d e f g => by rcases h.clos u v u' v' a b c d e f g with q | q; exact q; cases q) hu hv
/-- wave by wave -/
def nearB (W H : Nat) (I : Nat → Bool) (u v : Nat) : Bool := ((decide (0 < u) && I (v * W + (u - 1))) || (decide (u + 1 < W) && I (v * W + (u + 1)))) || (decide (0 < v) && I ((v - 1) * W + u)) || (decide (v + 1 < H) && I ((v + 1) * W + u))
theorem near_iff {W H u v : Nat} {I : Nat → Bool} (hu : u < W) (hv : v < H) : nearB W H I u v = true ↔ ∃ u' v', u' < W ∧ v' < H ∧ Nb u' v' u v ∧ I (v' * W + u') = true := by
  unfold nearB
  simp only [Bool.or_eq_true, Bool.and_eq_true, decide_eq_true_eq]
  constructor
  · rintro (((⟨h1, h2⟩ | ⟨h1, h2⟩) | ⟨h1, h2⟩) | ⟨h1, h2⟩)
    · exact ⟨u - 1, v, by omega, hv, by unfold Nb; omega, h2⟩
    · exact ⟨u + 1, v, h1, hv, by unfold Nb; omega, h2⟩
    · exact ⟨u, v - 1, hu, by omega, by unfold Nb; omega, h2⟩
    · exact ⟨u, v + 1, hu, h1, by unfold Nb; omega, h2⟩
  · rintro ⟨u', v', h1, h2, h3, h4⟩
    unfold Nb at h3
    rcases h3 with ⟨a, b⟩ | ⟨a, b⟩ | ⟨a, b⟩ | ⟨a, b⟩
    · subst b; obtain rfl : u' = u + 1 := by omega
      exact .inl (.inl (.inr ⟨h1, h4⟩))
    · subst b; obtain rfl : u' = u - 1 := by omega
      exact .inl (.inl (.inl ⟨by omega, h4⟩))
    · subst a; obtain rfl : v' = v + 1 := by omega
      exact .inr ⟨h2, h4⟩
    · subst a; obtain rfl : v' = v - 1 := by omega
      exact .inl (.inr ⟨by omega, h4⟩)
def Scan (y x u v : Nat) : Prop := v < y ∨ (v = y ∧ u < x)
structure Wv (W H : Nat) (ok : Nat → Nat → Prop) (u0 v0 n0 : Nat) (I : Nat → Bool) (more : Bool) (y x : Nat) : Prop where
  sound : ∀ u v, u < W → v < H → I (v * W + u) = true → Rch W H ok u0 v0 u v
  root : I (v0 * W + u0) = true
  no : more = false → ∀ u v, u < W → v < H → Scan y x u v → ok u v → I (v * W + u) = false → nearB W H I u v = false
  yes : more = true → cnt I (W * H) < n0
  le : cnt I (W * H) ≤ n0
theorem Wv.pass {W H u0 v0 n0 y x : Nat} {ok : Nat → Nat → Prop} {I : Nat → Bool} {more : Bool} (h : Wv W H ok u0 v0 n0 I more y x) : Wv W H ok u0 v0 (cnt I (W * H)) I false 0 0 :=
  ⟨h.sound, h.root, fun _ u v _ _ hs => by unfold Scan at hs; omega, (fun e => by cases e), Nat.le_refl _⟩
theorem Wv.row {W H u0 v0 n0 y : Nat} {ok : Nat → Nat → Prop} {I : Nat → Bool} {more : Bool} (h : Wv W H ok u0 v0 n0 I more y W) : Wv W H ok u0 v0 n0 I more (y + 1) 0 :=
  ⟨h.sound, h.root, fun e u v hu hv hs => h.no e u v hu hv (by unfold Scan at hs ⊢; omega), h.yes, h.le⟩
theorem Wv.next {W H u0 v0 n0 y x : Nat} {ok : Nat → Nat → Prop} {I : Nat → Bool} {more : Bool} (h : Wv W H ok u0 v0 n0 I more y x) (hx : I (y * W + x) = true ∨ ¬ ok x y ∨ nearB W H I x y = false) : Wv W H ok u0 v0 n0 I more y (x + 1) := by
  refine ⟨h.sound, h.root, fun e u v hu hv hs ho hI => ?_, h.yes, h.le⟩
  by_cases q : u = x ∧ v = y
  · obtain ⟨rfl, rfl⟩ := q
    rcases hx with hx | hx | hx
    · rw [hI] at hx; cases hx
    · exact absurd ho hx
    · exact hx
  · exact h.no e u v hu hv (by unfold Scan at hs ⊢; omega) ho hI
theorem Wv.put {W H u0 v0 n0 y x : Nat} {ok : Nat → Nat → Prop} {I : Nat → Bool} {more : Bool} (h : Wv W H ok u0 v0 n0 I more y x) (hx : x < W) (hy : y < H) (ho : ok x y) (hI : I (y * W + x) = false) (hn : nearB W H I x y = true) : Wv W H ok u0 v0 n0 (setF I (y * W + x)) true y (x + 1) := by
  obtain ⟨u', v', h1, h2, h3, h4⟩ := (near_iff hx hy).1 hn
  have hlt : y * W + x < W * H := by
    have : (y + 1) * W ≤ H * W := Nat.mul_le_mul_right W hy
    rw [Nat.succ_mul] at this
    rw [Nat.mul_comm W H]; omega
  have hc := cnt_set hI hlt
  have hle := h.le
  refine ⟨fun u v hu hv hF => ?_, set_old h.root, (fun e => by cases e), (fun _ => by omega), by omega⟩
  rcases set_at hx hu hF with ⟨rfl, rfl⟩ | q
  · exact .step (h.sound u' v' h1 h2 h4) h3 hx hy ho
  · exact h.sound u v hu hv q
theorem Wv.done {W H u0 v0 n0 : Nat} {ok : Nat → Nat → Prop} {I : Nat → Bool} (h : Wv W H ok u0 v0 n0 I false H 0) (h0 : u0 < W ∧ v0 < H) {u v : Nat} (hu : u < W) (hv : v < H) : I (v * W + u) = true ↔ Rch W H ok u0 v0 u v := by
  refine closed_iff h0 h.sound h.root (fun a b a' b' ha hb ha' hb' hF hn ho => ?_) hu hv
  cases hI : I (b' * W + a') with
  | true => rfl
  | false =>
    exfalso
    have := h.no rfl a' b' ha' hb' (.inl hb') ho hI
    have h2 := (near_iff (W := W) (H := H) (I := I) ha' hb').2 ⟨a, b, ha, hb, hn, hF⟩
    rw [this] at h2; cases h2
theorem Wv.start {W H u0 v0 : Nat} (ok : Nat → Nat → Prop) (h0 : u0 < W) (n : Nat) (hn : W * H < n) : Wv W H ok u0 v0 n (setF (fun _ => false) (v0 * W + u0)) true 0 0 := by
  have := cnt_le (setF (fun _ => false) (v0 * W + u0)) (W * H)
  refine ⟨fun u v hu hv hF => ?_, if_pos rfl, (fun e => by cases e), (fun _ => by omega), by omega⟩
  rcases set_at h0 hu hF with ⟨rfl, rfl⟩ | q
  · exact .start
  · simp at q
end Go.Proofs.YtkfjcgcgfdibaaaDoor.Fl
namespace Go.Proofs.YtkfjcgcgfdibaaaDoor
open Go.RowKit
set_option maxRecDepth 100000
def gridR (idx : Nat → Nat → Nat) (val : Nat → Nat → P4) (y : Nat) (s : Nat → P4) : Nat → Nat → P4
  | 0 => s
  | x + 1 => upd (gridR idx val y s x) (idx x y) (val x y)
def gridA (idx : Nat → Nat → Nat) (val : Nat → Nat → P4) (B : Nat) (s : Nat → P4) : Nat → Nat → P4
  | 0 => s
  | y + 1 => gridR idx val y (gridA idx val B s y) B
structure Grid (A B N : Nat) (idx : Nat → Nat → Nat) (val : Nat → Nat → P4) (s0 q : Nat → P4) (G : Nat → Nat → Nat → P4) : Prop where
  start : G 0 0 = s0
  more : ∀ y x, G y (x + 1) = upd (G y x) (idx x y) (val x y)
  next : ∀ y, G (y + 1) 0 = G y B
  fin : ∀ i, i < N → q i = G A 0 i
theorem grid_row {idx : Nat → Nat → Nat} {val : Nat → Nat → P4} {y : Nat} {s : Nat → P4} : ∀ {x i : Nat}, (∀ x', x' < x → idx x' y ≠ i) → gridR idx val y s x i = s i := by
  intro x
  induction x with
  | zero => intro i _; rfl
  | succ x ih =>
    intro i h
    show upd _ _ _ i = _
    unfold upd; rw [if_neg (fun e => h x (Nat.lt_succ_self x) e.symm)]
    exact ih fun x' hx' => h x' (by omega)
theorem grid_hit {idx : Nat → Nat → Nat} {val : Nat → Nat → P4} {y : Nat} {s : Nat → P4} (hi : ∀ x x', idx x y = idx x' y → x = x') : ∀ {x x0 : Nat}, x0 < x → gridR idx val y s x (idx x0 y) = val x0 y := by
  intro x
  induction x with
  | zero => intro x0 h; omega
  | succ x ih =>
    intro x0 h
    show upd _ _ _ _ = _
    unfold upd
    by_cases e : x0 = x
    · subst e; rw [if_pos rfl]
    · rw [if_neg (fun q => e (hi _ _ q))]; exact ih (by omega)
theorem grid_is {A B N : Nat} {idx : Nat → Nat → Nat} {val : Nat → Nat → P4} {s0 q : Nat → P4} (hi : ∀ x y x' y', x < B → y < A → x' < B → y' < A → idx x y = idx x' y' → x = x' ∧ y = y')
    (hs : ∀ i, i < N → ∃ x y, x < B ∧ y < A ∧ idx x y = i) (hq : ∀ x y, x < B → y < A → q (idx x y) = val x y) : ∃ G, Grid A B N idx val s0 q G := by
  refine ⟨fun y x => gridR idx val y (gridA idx val B s0 y) x, rfl, fun _ _ => rfl, fun _ => rfl, fun i hN => ?_⟩
  obtain ⟨x, y, hx, hy, rfl⟩ := hs i hN
  rw [hq x y hx hy]
  show _ = gridA idx val B s0 A _
  have row : ∀ {x1 x0 : Nat} {s : Nat → P4}, x0 < x1 → x1 ≤ B → gridR idx val y s x1 (idx x0 y) = val x0 y := by
    intro x1
    induction x1 with
    | zero => intro x0 s h; omega
    | succ x1 ih =>
      intro x0 s h hB
      show _ = _
      simp only [gridR, upd]
      by_cases e : x0 = x1
      · subst e; rw [if_pos rfl]
      · rw [if_neg (fun q => e (hi x0 y x1 y (by omega) hy (by omega) hy q).1)]; exact ih (by omega) (by omega)
  have key : ∀ a, y < a → a ≤ A → gridA idx val B s0 a (idx x y) = val x y := by
    intro a
    induction a with
    | zero => intro h; omega
    | succ a ih =>
      intro h hA
      simp only [gridA]
      by_cases e : y = a
      · subst e; exact row hx (Nat.le_refl _)
      · rw [grid_row (fun x' hx' q => e (hi x' a x y hx' (by omega) hx hy q).2.symm)]; exact ih (by omega) (by omega)
  exact (key A hy (Nat.le_refl _)).symm
theorem lin_inj {W x y x' y' : Nat} (hx : x < W) (hx' : x' < W) (h : y * W + x = y' * W + x') : x = x' ∧ y = y' := by
  obtain ⟨a, b⟩ := at_mod (y := y) hx
  obtain ⟨c, d⟩ := at_mod (y := y') hx'
  rw [h] at a b
  exact ⟨a.symm.trans c, b.symm.trans d⟩
theorem lin_sur {W H i : Nat} (h : i < W * H) : ∃ x y, x < W ∧ y < H ∧ y * W + x = i := by
  obtain ⟨h1, h2⟩ := lin_idx h
  exact ⟨i % W, i / W, h1, h2, by rw [Nat.mul_comm]; exact Nat.div_add_mod i W⟩
theorem wrap_i {x : Int} (h : -9223372036854775808 ≤ x) (h' : x ≤ 9223372036854775807) : IntKind.i64.wrap x = x := by unfold IntKind.wrap; simp [IntKind.bits, IntKind.signed]; omega
theorem wrap_6 {x : Int} (h : -9223372036854775808 ≤ x) (h' : x ≤ 9223372036854775807) : wrap64 x = x := by unfold wrap64; omega
end Go.Proofs.YtkfjcgcgfdibaaaDoor
namespace Go.Proofs.YtkfjcgcgfdibaaaDoor
open Go.RowKit
/-- a row of cells, none frozen -/
def Cv (w : World) (B n : Nat) (g : Nat → Value) : Prop := ∀ i, i < n → w.cell? ⟨B, i, none⟩ = some (g i) ∧ w.frozen? ⟨B, i, none⟩ = false
theorem Cv.congr {w : World} {B n : Nat} {g g' : Nat → Value} (h : Cv w B n g) (hg : ∀ i, i < n → g' i = g i) : Cv w B n g' := by
  intro i hi; rw [hg i hi]; exact h i hi
theorem Cv.put {w : World} {B n : Nat} {g : Nat → Value} (h : Cv w B n g) (j : Nat) (x : Value) (g' : Nat → Value) (hj : j < n) (hg : ∀ i, i < n → g' i = if i = j then x else g i) : Cv (w.setCell ⟨B, j, none⟩ x) B n g' := by
  intro i hi
  obtain ⟨h1, h2⟩ := h i hi
  rw [hg i hi, World.frozen?_setCell]
  refine ⟨?_, h2⟩
  by_cases e : i = j
  · subst e; rw [if_pos rfl]; exact World.cell?_setCell_same _ _ _ h1
  · rw [if_neg e]; exact (World.cell?_setCell_other _ _ _ _ (by intro q; injection q with _ q2; exact e q2.symm)).trans h1
theorem Cv.keeps {w w' : World} {B n : Nat} {g : Nat → Value} {S : Nat → Prop} (h : Cv w B n g) (hk : Keeps S w w') (hB : ¬ S B) : Cv w' B n g := by
  intro i hi
  obtain ⟨h1, h2⟩ := h i hi
  have hlt : B < w.heap.size := World.block_lt_of_cell? w _ h1
  exact ⟨(hk.cell (p := ⟨B, i, none⟩) hlt hB).trans h1, (hk.frozen (p := ⟨B, i, none⟩) hlt hB).trans h2⟩
theorem Cv.ext {w w' : World} {B n : Nat} {g : Nat → Value} (h : Cv w B n g) (hE : Ext w w') : Cv w' B n g := h.keeps (S := fun _ => False) hE.keeps id
theorem Cv.drew {w : World} {B n : Nat} {g : Nat → Value} (h : Cv w B n g) : Cv w.drew B n g := h
theorem Cv.drewN {w : World} {B n : Nat} {g : Nat → Value} (h : Cv w B n g) (m : Nat) : Cv (w.drewN m) B n g := h
theorem Cv.made (w : World) (n : Nat) (z : Value) (t : TypeId) : Cv (w.alloc (.cells (madeCells #[z] n) t)) w.heap.size n (fun _ => z) := by
  intro i hi
  rw [World.cell?_alloc_at _ _ _ _ rfl, World.frozen?_alloc_at _ _ _ _ rfl]
  refine ⟨?_, rfl⟩
  have hs : i < (madeCells #[z] n).size := by rw [size_madeCells]; simpa using hi
  rw [Array.getElem?_eq_getElem hs]
  simp [madeCells, Nat.mod_one]
theorem Cv.of_cs {w : World} {B n : Nat} {k : IntKind} {g : Nat → Int} (h : Cs w B n k g) : Cv w B n (fun i => .int k (g i)) := h
end Go.Proofs.YtkfjcgcgfdibaaaDoor
