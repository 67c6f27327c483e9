/- The document's Fill and Crop: Own, and the loops that write. -/
import Derived.Test.YtkfjcgcgfdibaaaDoorPartC
import Derived.Test.YtkfjcgcgfdibaaaDoorBlank
namespace Go.Proofs.YtkfjcgcgfdibaaaDoor
open Go.RowKit
set_option maxRecDepth 100000
/-- what a loop that writes pixels holds: the result's variable, the picture's, its row -/
structure FAt (w0 wr : World) (R T g : Nat) (W H : Int) (n c : Nat) (px : Nat → P4) : Prop where
  ext : Ext w0 wr
  res : Bk wr R #[.int .i64 0, .int .i64 0, .slice none 0 0]
  bk : Bk wr T #[.int .i64 W, .int .i64 H, .slice (some ⟨g, 0, none⟩) n c]
  row : Po wr g n px
  nT : T ≠ g
  nR : R ≠ g
  gn : w0.heap.size ≤ g
theorem FAt.put {w0 wr : World} {R T g : Nat} {W H : Int} {n c : Nat} {px : Nat → P4} (h : FAt w0 wr R T g W H n c px) (k : Nat) (p : P4) : FAt w0 (set4 wr g k p) R T g W H n c (upd px k p) :=
  ⟨set4_ext h.ext h.gn k p, h.res.keeps (set4_keeps wr g k p) h.nR, h.bk.keeps (set4_keeps wr g k p) h.nT, h.row.put k p, h.nT, h.nR, h.gn⟩
theorem FAt.congr {w0 wr : World} {R T g : Nat} {W H : Int} {n c : Nat} {px qx : Nat → P4} (h : FAt w0 wr R T g W H n c px) (hq : ∀ i, i < n → qx i = px i) : FAt w0 wr R T g W H n c qx := ⟨h.ext, h.res, h.bk, h.row.congr hq, h.nT, h.nR, h.gn⟩
theorem FAt.step {w0 wr w2 : World} {R T g : Nat} {W H : Int} {n c : Nat} {px : Nat → P4} (h : FAt w0 wr R T g W H n c px) (hE : Ext wr w2) : FAt w0 w2 R T g W H n c px := ⟨h.ext.trans hE, h.res.ext hE, h.bk.ext hE, h.row.ext hE, h.nT, h.nR, h.gn⟩
theorem FAt.close {w0 wr : World} {R T g : Nat} {W H : Int} {n c : Nat} {px : Nat → P4} (h : FAt w0 wr R T g W H n c px) (hR : w0.heap.size ≤ R) :
    let wz := ((wr.setCell ⟨R, 0, none⟩ (.int .i64 W)).setCell ⟨R, 1, none⟩ (.int .i64 H)).setCell ⟨R, 2, none⟩ (.slice (some ⟨g, 0, none⟩) n c)
    wz.cell? ⟨R, 0, none⟩ = some (.int .i64 W) ∧ wz.cell? ⟨R, 1, none⟩ = some (.int .i64 H) ∧ wz.cell? ⟨R, 2, none⟩ = some (.slice (some ⟨g, 0, none⟩) n c) ∧ Po wz g n px ∧ Ext w0 wz := by
  obtain ⟨k0, k1, k2⟩ := h.res.pic.set (W' := W) (H' := H) (v' := .slice (some ⟨g, 0, none⟩) n c)
  exact ⟨k0, k1, k2, ((h.row.far h.nR _).far h.nR _).far h.nR _, h.ext.set3 hR _ _ _⟩
theorem ownsRow_ge {w : World} {base : Nat} {e : TypeId} {size : Nat} {g n m cap : Nat} {xs : List Value} (h : w.ownsRow base e size (.slice (some ⟨g, 0, none⟩) n cap) m xs) : base ≤ g := by
  rcases h.2 with ⟨h, _⟩ | ⟨g', cap', cur, hv, hb, _⟩
  · cases h
  · injection hv with hv; injection hv with hv; injection hv with hv; omega
/-- the pixels of Fill after k of them -/
def flP (W : Nat) (X Y RW RH : Int) (p : P4) (px : Nat → P4) (k i : Nat) : P4 := if i < k ∧ inR X Y RW RH ((i % W : Nat) : Int) ((i / W : Nat) : Int) = true then p else px i
theorem at_mod {W x y : Nat} (hx : x < W) : (y * W + x) % W = x ∧ (y * W + x) / W = y := by
  rw [Nat.mul_comm, Nat.mul_add_mod, Nat.mod_eq_of_lt hx, Nat.mul_add_div (by omega), Nat.div_eq_of_lt hx, Nat.add_zero]
  exact ⟨rfl, rfl⟩
theorem fl_no {W x y : Nat} {X Y RW RH : Int} {p : P4} {px : Nat → P4} (hx : x < W) (h : inR X Y RW RH (x : Int) (y : Int) = false) (i : Nat) : flP W X Y RW RH p px (y * W + x + 1) i = flP W X Y RW RH p px (y * W + x) i := by
  unfold flP
  by_cases e : i = y * W + x
  · subst e
    obtain ⟨e1, e2⟩ := at_mod (y := y) hx
    rw [e1, e2, h]; simp
  · have : (i < y * W + x + 1) ↔ (i < y * W + x) := by omega
    simp only [this]
theorem fl_yes {W x y : Nat} {X Y RW RH : Int} {p : P4} {px : Nat → P4} (hx : x < W) (h : inR X Y RW RH (x : Int) (y : Int) = true) (i : Nat) : flP W X Y RW RH p px (y * W + x + 1) i = upd (flP W X Y RW RH p px (y * W + x)) (y * W + x) p i := by
  unfold flP upd
  by_cases e : i = y * W + x
  · subst e
    obtain ⟨e1, e2⟩ := at_mod (y := y) hx
    rw [e1, e2, h]; simp
  · have : (i < y * W + x + 1) ↔ (i < y * W + x) := by omega
    simp only [this, if_neg e]

theorem fillOf_any (W H : Nat) (ad : Addr) (cap : Nat) (px : Nat → P4) (X Y RW RH : Int) (p : P4) (w : World) (hx : Pxs w (some ad) (W * H) px) (hW : 1 ≤ W ∧ W ≤ 256) (hH : 1 ≤ H ∧ H ≤ 256) (hn : (-10000 ≤ X ∧ X ≤ 10000) ∧ (-10000 ≤ Y ∧ Y ≤ 10000) ∧ (-10000 ≤ RW ∧ RW ≤ 10000) ∧ (-10000 ≤ RH ∧ RH ≤ 10000)) :
    Calls Tryd.prog 30 #[.agg #[.int .i64 (W : Int), .int .i64 (H : Int), .slice (some ad) (W * H) cap], .agg #[.int .i64 X, .int .i64 Y, .int .i64 RW, .int .i64 RH], .agg #[.int .u8 p.r, .int .u8 p.g, .int .u8 p.b, .int .u8 p.a]] w fun e w' => (∃ g c, e = .returned (.agg #[.int .i64 (W : Int), .int .i64 (H : Int), .slice (some ⟨g, 0, none⟩) (W * H) c]) ∧ Po w' g (W * H) (flP W X Y RW RH p px (H * W)) ∧ w.heap.size ≤ g) ∧ Ext w w' := by
  obtain ⟨hW1, hW2⟩ := hW
  obtain ⟨hH1, hH2⟩ := hH
  obtain ⟨⟨n1, n2⟩, ⟨n3, n4⟩, ⟨n5, n6⟩, n7, n8⟩ := hn
  have HX := Lib.hid hx
  have hWH : 0 < W * H := Nat.mul_pos hW1 hH1
  obtain ⟨N, hN⟩ : ∃ N, W * H = N := ⟨_, rfl⟩
  have hNl : N ≤ 65536 := by rw [← hN]; exact Nat.mul_le_mul hW2 hH2
  rw [hN] at hWH HX ⊢
  have NN := Lib.hid hN
  clear hN hx
  go_enter Tryd.func30, Tryd.ntmps30
  go_wp2_with fail
  refine calls_world (fun wz => Ext w wz ∧ wz.heap.size = w.heap.size + 1 + 1 + 1 + 1 ∧ Bk wz (w.heap.size) #[.int .i64 (W : Int), .int .i64 (H : Int), .slice (some ad) N cap] ∧ Bk wz (w.heap.size + 1) #[.int .i64 X, .int .i64 Y, .int .i64 RW, .int .i64 RH] ∧ Bk wz (w.heap.size + 1 + 1) #[.int .u8 p.r, .int .u8 p.g, .int .u8 p.b, .int .u8 p.a] ∧ Bk wz (w.heap.size + 1 + 1 + 1) #[.int .i64 0, .int .i64 0, .slice none 0 0]) ⟨by repeat (first | exact Ext.refl _ | refine Ext.alloc ?_ _), by simp, by repeat (first | exact Bk.at (by simp) | refine Bk.old ?_), by repeat (first | exact Bk.at (by simp) | refine Bk.old ?_), by repeat (first | exact Bk.at (by simp) | refine Bk.old ?_), by repeat (first | exact Bk.at (by simp) | refine Bk.old ?_)⟩ ?_
  rintro w1 ⟨hX, hZ, hB0, hB1, hB2, hB3⟩
  have X1 := Lib.hid hX
  have SZ := Lib.hid hZ
  have B0 := Lib.hid hB0
  have B1 := Lib.hid hB1
  have B2 := Lib.hid hB2
  have B3 := Lib.hid hB3
  clear hX hZ hB0 hB1 hB2 hB3
  refine (own_any _ _ (some ad) N cap px _ (HX.out.ext X1.out) (fun h => by cases h) (by omega)).mono ?_
  rintro e w2 ⟨⟨v, rfl, hown⟩, h⟩
  have X2 := Lib.hid (h)
  have OWN := Lib.hid (hown)
  clear h hown
  obtain ⟨g, c, rfl, _, hg⟩ := ownsRow_some OWN.out hWH
  have HG := Lib.hid (And.intro hg (ownsRow_ge OWN.out))
  clear hg
  go_wp2_with fail
  have E_ := (Ext.refl w2).alloc (.cells #[.int .i64 (W : Int), .int .i64 (H : Int), .slice (some ⟨g, 0, none⟩) N c] 24)
  have FA : Hid (FAt w (w2.alloc (.cells #[.int .i64 (W : Int), .int .i64 (H : Int), .slice (some ⟨g, 0, none⟩) N c] 24)) (w.heap.size + 1 + 1 + 1) w2.heap.size g (W : Int) (H : Int) N c (flP W X Y RW RH p px (0 * W))) := Lib.hid (by
    obtain ⟨q1, q2⟩ := HG.out
    have q3 := SZ.out
    refine FAt.congr (px := px) ⟨X1.out.trans (X2.out.trans E_), (B3.out.ext X2.out).ext E_, Bk.at rfl, (Po.of_own OWN.out).ext E_, by omega, by omega, by omega⟩ (fun i _ => ?_)
    unfold flP; rw [if_neg (by omega)])
  have B0' := Lib.hid (B0.out.ext (X2.out.trans E_))
  have B1' := Lib.hid (B1.out.ext (X2.out.trans E_))
  have B2' := Lib.hid (B2.out.ext (X2.out.trans E_))
  clear E_
  refine wp_world (fun wz => Hid (FAt w wz (w.heap.size + 1 + 1 + 1) w2.heap.size g (W : Int) (H : Int) N c (flP W X Y RW RH p px (0 * W))) ∧ Hid (Bk wz w.heap.size #[.int .i64 (W : Int), .int .i64 (H : Int), .slice (some ad) N cap]) ∧ Hid (Bk wz (w.heap.size + 1) #[.int .i64 X, .int .i64 Y, .int .i64 RW, .int .i64 RH]) ∧ Hid (Bk wz (w.heap.size + 1 + 1) #[.int .u8 p.r, .int .u8 p.g, .int .u8 p.b, .int .u8 p.a])) ⟨FA, B0', B1', B2'⟩ ?_
  obtain ⟨T, hT⟩ : ∃ T, w2.heap.size = T := ⟨_, rfl⟩
  rw [hT] at *
  have NB : Hid (w.heap.size ≠ g ∧ w.heap.size + 1 ≠ g ∧ w.heap.size + 1 + 1 ≠ g) := Lib.hid (by have := HG.out; have := SZ.out; omega)
  clear FA B0' B1' B2' OWN B0 B1 B2 B3 X1 X2 HG SZ hT
  rintro wz ⟨FA, B0, B1, B2⟩
  go_loopw [8] (fun cc wr => ∃ y : Nat, y ≤ H ∧ cc = .int .i64 y ∧ Hid (FAt w wr (w.heap.size + 1 + 1 + 1) T g (W : Int) (H : Int) N c (flP W X Y RW RH p px (y * W))) ∧ Hid (Bk wr w.heap.size #[.int .i64 (W : Int), .int .i64 (H : Int), .slice (some ad) N cap]) ∧ Hid (Bk wr (w.heap.size + 1) #[.int .i64 X, .int .i64 Y, .int .i64 RW, .int .i64 RH]) ∧ Hid (Bk wr (w.heap.size + 1 + 1) #[.int .u8 p.r, .int .u8 p.g, .int .u8 p.b, .int .u8 p.a])) (fun cc _ => H - (intOf cc).toNat)
  case atStart => exact ⟨0, by omega, rfl, FA, B0, B1, B2⟩
  case round =>
    clear FA B0 B1 B2
    obtain ⟨y, hy, rfl, FA, B0, B1, B2⟩ := hrel
    have b1 := B0.out.cell 1
    by_cases hlt : y < H
    · go_wp2_with fail
      clear b1
      go_loopw [9] (fun cc wr => ∃ x : Nat, x ≤ W ∧ cc = .int .i64 x ∧ Hid (FAt w wr (w.heap.size + 1 + 1 + 1) T g (W : Int) (H : Int) N c (flP W X Y RW RH p px (y * W + x))) ∧ Hid (Bk wr w.heap.size #[.int .i64 (W : Int), .int .i64 (H : Int), .slice (some ad) N cap]) ∧ Hid (Bk wr (w.heap.size + 1) #[.int .i64 X, .int .i64 Y, .int .i64 RW, .int .i64 RH]) ∧ Hid (Bk wr (w.heap.size + 1 + 1) #[.int .u8 p.r, .int .u8 p.g, .int .u8 p.b, .int .u8 p.a])) (fun cc _ => W - (intOf cc).toNat)
      case atStart => exact ⟨0, by omega, rfl, FA, B0, B1, B2⟩
      case round =>
        clear FA B0 B1 B2
        obtain ⟨x, hx, rfl, FA, B0, B1, B2⟩ := hrel
        have b0 := B0.out.cell 0
        by_cases hlx : x < W
        · have r0 := B1.out.cell 0
          have r1 := B1.out.cell 1
          have r2 := B1.out.cell 2
          have r3 := B1.out.cell 3
          by_cases i1 : X ≤ (x : Int)
          · have t1 : decide (X ≤ (x : Int)) = true := decide_eq_true i1
            by_cases i2 : (x : Int) - X < RW
            · have t2 : decide ((x : Int) - X < RW) = true := decide_eq_true i2
              by_cases i3 : Y ≤ (y : Int)
              · have t3 : decide (Y ≤ (y : Int)) = true := decide_eq_true i3
                by_cases i4 : (y : Int) - Y < RH
                · have t4 : decide ((y : Int) - Y < RH) = true := decide_eq_true i4
                  have HI : Hid (inR X Y RW RH (x : Int) (y : Int) = true) := Lib.hid (decide_eq_true (by omega))
                  clear i1 i2 i3 i4
                  have FN := Lib.hid ((FA.out.put (y * W + x) p).congr fun i _ => fl_yes hlx HI.out i)
                  have K := set4_keeps wr g (y * W + x) p
                  have B0N := Lib.hid (B0.out.keeps K NB.out.1)
                  have B1N := Lib.hid (B1.out.keeps K NB.out.2.1)
                  have B2N := Lib.hid (B2.out.keeps K NB.out.2.2)
                  have hk : y * W + x < N := by rw [← NN.out]; exact mul_lt_of hlt hlx
                  have hMI : (y : Int) * (W : Int) = ((y * W : Nat) : Int) := by simp
                  clear HI K
                  unfold set4 at *
                  obtain ⟨M, hM⟩ : ∃ M, y * W = M := ⟨_, rfl⟩
                  rw [hM] at FA FN B0N B1N B2N hk hMI
                  have MM := Lib.hid hM
                  clear hM
                  have p0 := B2.out.cell 0
                  have p1 := B2.out.cell 1
                  have p2 := B2.out.cell 2
                  have p3 := B2.out.cell 3
                  have k2 := FA.out.bk.cell 2
                  obtain ⟨c0, f0⟩ := FA.out.row ((M + x) * 4) (by omega)
                  obtain ⟨c1, f1⟩ := FA.out.row ((M + x) * 4 + 1) (by omega)
                  obtain ⟨c2, f2⟩ := FA.out.row ((M + x) * 4 + 2) (by omega)
                  obtain ⟨c3, f3⟩ := FA.out.row ((M + x) * 4 + 3) (by omega)
                  go_wp2_with fail
                  go_roundw
                  case rel => exact ⟨x + 1, by omega, by go_num, by rw [MM.out]; exact FN, B0N, B1N, B2N⟩
                  case measure => simp [intOf]; omega
                · have t4 : decide ((y : Int) - Y < RH) = false := decide_eq_false i4
                  have HI : Hid (inR X Y RW RH (x : Int) (y : Int) = false) := Lib.hid (decide_eq_false (by omega))
                  clear i1 i2 i3 i4
                  go_wp2_with fail
                  go_roundw
                  case rel => exact ⟨x + 1, by omega, by go_num, Lib.hid (FA.out.congr fun i _ => fl_no hlx HI.out i), B0, B1, B2⟩
                  case measure => simp [intOf]; omega
              · have t3 : decide (Y ≤ (y : Int)) = false := decide_eq_false i3
                have HI : Hid (inR X Y RW RH (x : Int) (y : Int) = false) := Lib.hid (decide_eq_false (by omega))
                clear i1 i2 i3
                go_wp2_with fail
                go_roundw
                case rel => exact ⟨x + 1, by omega, by go_num, Lib.hid (FA.out.congr fun i _ => fl_no hlx HI.out i), B0, B1, B2⟩
                case measure => simp [intOf]; omega
            · have t2 : decide ((x : Int) - X < RW) = false := decide_eq_false i2
              have HI : Hid (inR X Y RW RH (x : Int) (y : Int) = false) := Lib.hid (decide_eq_false (by omega))
              clear i1 i2
              go_wp2_with fail
              go_roundw
              case rel => exact ⟨x + 1, by omega, by go_num, Lib.hid (FA.out.congr fun i _ => fl_no hlx HI.out i), B0, B1, B2⟩
              case measure => simp [intOf]; omega
          · have t1 : decide (X ≤ (x : Int)) = false := decide_eq_false i1
            have HI : Hid (inR X Y RW RH (x : Int) (y : Int) = false) := Lib.hid (decide_eq_false (by omega))
            clear i1
            go_wp2_with fail
            go_roundw
            case rel => exact ⟨x + 1, by omega, by go_num, Lib.hid (FA.out.congr fun i _ => fl_no hlx HI.out i), B0, B1, B2⟩
            case measure => simp [intOf]; omega
        · obtain rfl : x = W := by omega
          go_wp2_with fail
          go_roundw
          case rel => exact ⟨y + 1, by omega, by go_num, by rw [Nat.succ_mul]; exact FA, B0, B1, B2⟩
          case measure => simp [intOf]; omega
    · obtain rfl : y = H := by omega
      have k0 := FA.out.bk.cell 0
      have k1 := FA.out.bk.cell 1
      have k2 := FA.out.bk.cell 2
      have d0 := FA.out.res.cell 0
      have d1 := FA.out.res.cell 1
      have d2 := FA.out.res.cell 2
      have e0 := FA.out.res.frozen 0
      have e1 := FA.out.res.frozen 1
      have e2 := FA.out.res.frozen 2
      have PC := Lib.hid (FA.out.close (by omega : w.heap.size ≤ w.heap.size + 1 + 1 + 1))
      have GN := Lib.hid FA.out.gn
      clear FA B0 B1 B2
      go_wp2_with fail
      obtain ⟨k0, k1, k2, hP, hX⟩ := PC.out
      exact bodyPost_ret (v := .agg #[.int .i64 (W : Int), .int .i64 (y : Int), .slice (some ⟨g, 0, none⟩) N c]) (by simp [results, Tryd.results30, go_sem, k0, k1, k2]) rfl ⟨⟨g, ⟨c, rfl⟩, hP, GN.out⟩, hX⟩
end Go.Proofs.YtkfjcgcgfdibaaaDoor
