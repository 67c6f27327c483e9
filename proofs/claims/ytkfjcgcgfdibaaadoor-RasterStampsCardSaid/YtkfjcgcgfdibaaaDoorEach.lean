/- raster.each: a new picture, pixel by pixel. -/
import Derived.Test.YtkfjcgcgfdibaaaDoorPxs
import Derived.Deep.RegionLaw
namespace Go.Proofs.YtkfjcgcgfdibaaaDoor
open Go.RowKit
set_option maxRecDepth 100000
attribute [local go_sem ↓] Go.wp_at_zero Go.wp_at_succ
/-- places of a picture, row by row -/
def lin (wide : Nat) (px : Nat → Nat → P4) (i : Nat) : P4 := px (i % wide) (i / wide)
theorem lin_at (wide : Nat) (px : Nat → Nat → P4) (x y : Nat) (hx : x < wide) : lin wide px (y * wide + x) = px x y := by
  unfold lin
  rw [Nat.mul_comm, Nat.mul_add_mod, Nat.mod_eq_of_lt hx, Nat.mul_add_div (by omega), Nat.div_eq_of_lt hx, Nat.add_zero]
theorem enters_fn {P : Program} {f : FuncId} {fn : Func} {c : Code} (hf : P.funcs[f]? = some fn) (hname : (fn.name == "runtime.NumGoroutine") = false) (hb : fn.body = some c) (args : Array Value) (w : World) : (callFunc f args).run P w = .ok (.enter f args) w := by
  have h1 : fn.name ≠ "runtime.NumGoroutine" := by simpa using hname
  simp [callFunc, hf, h1, hb, mark]
theorem own_slice {w : World} {base : Nat} {e : TypeId} {size : Nat} {v : Value} {n : Nat} {xs : List Value} (h : w.ownsRow base e size v n xs) : ∃ x c, v = .slice x n c := by
  rcases ownsRow_slice h with ⟨h1, h2⟩ | ⟨g, cap, h1⟩
  · exact ⟨none, 0, by rw [h1, h2]⟩
  · exact ⟨_, cap, h1⟩
/-- what 'each' holds while it goes -/
structure EAt (w wr : World) (W H : Int) (v : Value) (k : Nat) (px : Nat → P4) : Prop where
  ext : Ext w wr
  res : PicAt wr w.heap.size 0 0 (.slice none 0 0)
  pic : PicAt wr (w.heap.size + 1) W H v
  fr : ∀ j, wr.frozen? ⟨w.heap.size, j, none⟩ = false
  fp : ∀ j, wr.frozen? ⟨w.heap.size + 1, j, none⟩ = false
  own : wr.ownsRow w.heap.size 36 4 v k (pxV k px)
  ne : v.ownBlock ≠ some w.heap.size ∧ v.ownBlock ≠ some (w.heap.size + 1)
/-- one pixel more -/
theorem each_push {w wr w2 w3 : World} {W H : Int} {v v' : Value} {k : Nat} {px : Nat → P4} {t : TypeId} {g : Nat} {p : P4} (hp : px k = p) (h : EAt w wr W H v k px) (hx : Ext wr.drew w2) (hgrow : (w2.alloc (.cells #[.int .u8 p.r, .int .u8 p.g, .int .u8 p.b, .int .u8 p.a] t)).grownBy w3 v.ownBlock)
    (hown : w3.ownsRow w.heap.size 36 4 v' (k + 1) (pxV k px ++ [.int .u8 p.r, .int .u8 p.g, .int .u8 p.b, .int .u8 p.a])) (hv : v'.ownBlock = some g) (hat : v.ownBlock = some g ∨ g = w2.heap.size + 1) :
    w3.cell? ⟨w.heap.size + 1, 2, none⟩ = some v ∧ w3.frozen? ⟨w.heap.size + 1, 2, none⟩ = false ∧ EAt w (w3.setCell ⟨w.heap.size + 1, 2, none⟩ v') W H v' (k + 1) px := by
  subst hp
  have hT : w.heap.size + 1 < wr.heap.size := World.block_lt_of_cell? wr _ h.pic.c0
  have hs : wr.heap.size ≤ w2.heap.size := hx.size
  have hkk : Keeps (fun k => v.ownBlock = some k) wr w3 := Keeps.trans (Keeps.alloc (Ext.keeps (a := wr) (show Ext wr w2 from ⟨hx.os, hx.tape, hx.output, hx.size, hx.block⟩)) _) (Keeps.grown hgrow) (fun _ _ q => q)
  have n0 : ¬ v.ownBlock = some w.heap.size := h.ne.1
  have n1 : ¬ v.ownBlock = some (w.heap.size + 1) := h.ne.2
  have cc : ∀ b j, b < wr.heap.size → ¬ v.ownBlock = some b → w3.cell? ⟨b, j, none⟩ = wr.cell? ⟨b, j, none⟩ := fun b j hb hn => hkk.cell (p := ⟨b, j, none⟩) hb hn
  have ff : ∀ b j, b < wr.heap.size → ¬ v.ownBlock = some b → w3.frozen? ⟨b, j, none⟩ = wr.frozen? ⟨b, j, none⟩ := fun b j hb hn => hkk.frozen (p := ⟨b, j, none⟩) hb hn
  have hng : v'.ownBlock ≠ some w.heap.size ∧ v'.ownBlock ≠ some (w.heap.size + 1) := by
    rw [hv]
    rcases hat with q | q
    · exact ⟨fun e => n0 (q.trans e), fun e => n1 (q.trans e)⟩
    · exact ⟨fun e => by injection e with e; omega, fun e => by injection e with e; omega⟩
  have hE : Ext w w3 := Below.trans h.ext (hkk.below h.ext.size (fun k hk q => by have := (h.own.lt k q).1; omega))
  have e0 : ∀ j, (⟨w.heap.size + 1, 2, none⟩ : Addr) ≠ ⟨w.heap.size, j, none⟩ := fun j e => by injection e with e; omega
  have e1 : ∀ j, j ≠ 2 → (⟨w.heap.size + 1, 2, none⟩ : Addr) ≠ ⟨w.heap.size + 1, j, none⟩ := fun j hj e => by injection e with _ e; exact hj e.symm
  refine ⟨(cc _ 2 hT n1).trans h.pic.c2, (ff _ 2 hT n1).trans (h.fp 2), ⟨hE.setCell (by show w.heap.size ≤ w.heap.size + 1; omega) _, ⟨?_, ?_, ?_⟩, ⟨?_, ?_, ?_⟩, ?_, ?_, ?_, hng⟩⟩
  · exact (World.cell?_setCell_other _ _ _ _ (e0 0)).trans ((cc _ 0 (by omega) n0).trans h.res.c0)
  · exact (World.cell?_setCell_other _ _ _ _ (e0 1)).trans ((cc _ 1 (by omega) n0).trans h.res.c1)
  · exact (World.cell?_setCell_other _ _ _ _ (e0 2)).trans ((cc _ 2 (by omega) n0).trans h.res.c2)
  · exact (World.cell?_setCell_other _ _ _ _ (e1 0 (by decide))).trans ((cc _ 0 hT n1).trans h.pic.c0)
  · exact (World.cell?_setCell_other _ _ _ _ (e1 1 (by decide))).trans ((cc _ 1 hT n1).trans h.pic.c1)
  · exact World.cell?_setCell_same _ _ _ ((cc _ 2 hT n1).trans h.pic.c2)
  · intro j; rw [World.frozen?_setCell]; exact (ff _ j (by omega) n0).trans (h.fr j)
  · intro j; rw [World.frozen?_setCell]; exact (ff _ j hT n1).trans (h.fp j)
  · rw [pxV_succ]; exact ownsRow_setCell_other hown hng.2 _
/-- out of a closure that gives each pixel -/
theorem each_any (f : Nat) (cs : Array Value) (wide high : Nat) (px : Nat → Nat → P4) (w : World) (hw : wide ≤ 10000) (hh : high ≤ 10000) (hen : ∀ (args : Array Value) (w : World), (callFunc f args).run Tryd.prog w = .ok (.enter f args) w)
    (hcall : ∀ x y w1, Ext w w1 → x < wide → y < high → Calls Tryd.prog f (#[.int .i64 (x : Int), .int .i64 (y : Int)] ++ cs) w1 fun e w2 => e = .returned (.agg #[.int .u8 (px x y).r, .int .u8 (px x y).g, .int .u8 (px x y).b, .int .u8 (px x y).a]) ∧ Ext w1 w2) :
    Calls Tryd.prog 56 #[.int .i64 (wide : Int), .int .i64 (high : Int), .func (.func f) #[] cs] w fun e w' => (∃ v, e = .returned (.agg #[.int .i64 (wide : Int), .int .i64 (high : Int), v]) ∧ w'.ownsRow w.heap.size 36 4 v (wide * high) (pxV (wide * high) (lin wide px))) ∧ Ext w w' := by
  have HC := Lib.hid hcall
  clear hcall
  obtain ⟨i0, hi0, hz0, hz1, hz2⟩ := info_parts pixinfo
  go_enter Tryd.func56, Tryd.ntmps56
  go_wp2_with fail
  refine wp_world (fun wz => EAt w wz (wide : Int) (high : Int) (.slice none 0 0) (0 * wide) (lin wide px)) ?_ ?_
  · refine ⟨(Ext.refl _).alloc _ |>.alloc _, ?_, ?_, ?_, ?_, ?_, ?_⟩
    · exact (PicAt.new w 0 0 (.slice none 0 0) 24).ext ((Ext.refl _).alloc _)
    · have := PicAt.new (w.alloc (.cells #[.int .i64 0, .int .i64 0, .slice none 0 0] 24)) (wide : Int) (high : Int) (.slice none 0 0) 24
      simpa using this
    · intro j; rw [World.frozen?_alloc_past _ _ _ (by simp)]; exact World.frozen?_alloc_at _ _ _ _ rfl
    · intro j; exact World.frozen?_alloc_at _ _ _ _ (by simp)
    · rw [Nat.zero_mul]; exact World.ownsRow_nil _ _ _ _
    · exact ⟨(fun e => by cases e), (fun e => by cases e)⟩
  intro wz hE
  have HE := Lib.hid hE
  clear hE
  go_loopw [14] (fun c wr => ∃ (y : Nat) (v : Value), y ≤ high ∧ c = .int .i64 y ∧ Hid (EAt w wr (wide : Int) (high : Int) v (y * wide) (lin wide px))) (fun c _ => high - (intOf c).toNat)
  case atStart => exact ⟨0, _, by omega, rfl, HE⟩
  case round =>
    clear HE
    obtain ⟨y, v, hy, rfl, HE⟩ := hrel
    by_cases hlt : y < high
    · go_wp2_with fail
      go_loopw [18] (fun c wr => ∃ (x : Nat) (v : Value), x ≤ wide ∧ c = .int .i64 x ∧ Hid (EAt w wr (wide : Int) (high : Int) v (y * wide + x) (lin wide px))) (fun c _ => wide - (intOf c).toNat)
      case atStart => exact ⟨0, v, by omega, rfl, HE⟩
      case round =>
        clear HE
        obtain ⟨x, v, hx, rfl, HE⟩ := hrel
        by_cases hlx : x < wide
        · have c2 := HE.out.pic.c2
          have f2 := HE.out.fp 2
          have own := HE.out.own
          have hk : y * wide + x < 100000000 := by
            have : y * wide ≤ 9999 * 10000 := Nat.mul_le_mul (by omega) hw
            omega
          go_wp2_with fail
          have hT : w.heap.size + 1 < wr.heap.size := World.block_lt_of_cell? wr _ c2
          have hdz : wr.drew.heap.size = wr.heap.size := rfl
          go_region_law
            (first
              | ((go_simp; refine (HC.out x y _ (by first | exact HE.out.ext | exact Below.drew HE.out.ext) hlx hlt).mono ?_; rintro e w2 ⟨rfl, hx2⟩; have hwz := hx2.size; have c2' := (hx2.cell (p := ⟨w.heap.size + 1, 2, none⟩) hT).trans c2; have c2'' : ∀ o : Obj, (w2.alloc o).cell? ⟨w.heap.size + 1, 2, none⟩ = some v := fun o => (World.cell?_alloc_past _ _ _ (show w.heap.size + 1 < w2.heap.size by omega)).trans c2'; go_simp))
              | ((refine step_append_lies _ (by rfl) _ _ _ (by rfl) w.heap.size 36 i0 _ 4 4 Tryd.underlying22 hi0 hz0 hz1 hz2 rfl (by omega) v (y * wide + x) (pxV (y * wide + x) (lin wide px)) (by rfl) (World.ownsRow.alloc (ownsRow_kept (w := wr.drew) (S := fun _ => False) own hx2.keeps (fun _ _ => id)) _) ⟨w2.heap.size, 0, none⟩ 1 1 [.int .u8 (px x y).r, .int .u8 (px x y).g, .int .u8 (px x y).b, .int .u8 (px x y).a] (by rfl) (by rfl) (World.news_of_block (cs := #[.int .u8 (px x y).r, .int .u8 (px x y).g, .int .u8 (px x y).b, .int .u8 (px x y).a]) (t := 36) (fr := (0, 0)) (heap_alloc_new w2 _)) (by simp [Value.oneCell']) (by omega) (by unfold maxLen; omega) (by omega) (by simp; omega) (w2.heap.size + 1) (by simp) ?_; intro g cap w3 hown hgrow hat hlg; have P := each_push (lin_at wide px x y hlx) HE.out hx2 hgrow hown rfl hat; have c3 := P.1; have f3 := P.2.1; have P3 := Lib.hid P.2.2; clear P)))
          all_goals
            clear c3 f3 hown hgrow hat hlg
            go_wp2_with fail
            go_roundw
            case rel => exact ⟨x + 1, _, by omega, by go_num, P3⟩
            case measure => simp [intOf]; omega
        · obtain rfl : x = wide := by omega
          go_wp2_with fail
          go_roundw
          case rel => exact ⟨y + 1, v, by omega, by go_num, by rw [Nat.succ_mul]; exact HE⟩
          case measure => simp [intOf]; omega
    · obtain rfl : y = high := by omega
      obtain ⟨x, c, rfl⟩ := own_slice HE.out.own
      have c0 := HE.out.pic.c0
      have c1 := HE.out.pic.c1
      have c2 := HE.out.pic.c2
      have d0 := HE.out.res.c0
      have d1 := HE.out.res.c1
      have d2 := HE.out.res.c2
      have e0 := HE.out.fr 0
      have e1 := HE.out.fr 1
      have e2 := HE.out.fr 2
      go_wp2_with fail
      have P := HE.out.res.set (W' := (wide : Int)) (H' := (y : Int)) (v' := .slice x (y * wide) c)
      have k0 := P.c0
      have k1 := P.c1
      have k2 := P.c2
      have own := ownsRow_set3 HE.out.own HE.out.ne.1 (.int .i64 (wide : Int)) (.int .i64 (y : Int)) (.slice x (y * wide) c)
      have hX := HE.out.ext.set3 (Nat.le_refl _) (.int .i64 (wide : Int)) (.int .i64 (y : Int)) (.slice x (y * wide) c)
      clear P c0 c1 c2 d0 d1 d2 e0 e1 e2
      rw [Nat.mul_comm y wide] at *
      exact bodyPost_ret (v := .agg #[.int .i64 (wide : Int), .int .i64 (y : Int), .slice x (wide * y) c]) (by simp [results, Tryd.results56, go_sem, k0, k1, k2]) rfl ⟨⟨_, rfl, own⟩, hX⟩
end Go.Proofs.YtkfjcgcgfdibaaaDoor
