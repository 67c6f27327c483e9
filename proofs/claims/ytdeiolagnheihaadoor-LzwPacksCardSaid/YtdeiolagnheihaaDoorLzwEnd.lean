/- lzw.Pack of nothing: 'end', the closed fact; a code put. -/
import Derived.Test.YtdeiolagnheihaaDoorPutT
import Derived.Test.YtdeiolagnheihaaDoorBox
import Derived.StillTailTactics
import Derived.RegionTactic
import Derived.Carry
import Derived.BigQuiet
namespace Go.Proofs.YtdeiolagnheihaaDoor
open Go.RowKit
set_option maxRecDepth 100000
/-- what a writer did touched only new blocks, if it and its row are new -/
theorem WStep.below {w w' : World} {B o H : Nat} {v v' : Value} (h : WStep w w' B o v v') (hB : H ≤ B) (hv : ∀ k, v.ownBlock = some k → H ≤ k) (hH : H ≤ w.heap.size) : Below H w w' :=
  h.keeps.below hH fun k hk q => by
    rcases q with q | q
    · omega
    · have := hv k q; omega
theorem WStep.own {w w' : World} {B o H : Nat} {v v' : Value} (h : WStep w w' B o v v') (hv : ∀ k, v.ownBlock = some k → H ≤ k) (hH : H ≤ w.heap.size) : ∀ k, v'.ownBlock = some k → H ≤ k := by
  intro k hk
  rcases h.new k hk with q | q
  · exact hv k q
  · omega
theorem WAt.other {w : World} {B o V n : Nat} {v : Value} (h : WAt w B o v V n) (j : Nat) (u : Value) (h0 : j ≠ o) (h1 : j ≠ o + 1) : WAt (w.setCell ⟨B, j, none⟩ u) B o v V n := by
  obtain ⟨c0, c1, f0, f1, ⟨l, hl, hV, hown⟩, hap, hlt⟩ := h
  have a0 : (⟨B, j, none⟩ : Addr) ≠ ⟨B, o, none⟩ := by intro e; injection e with _ e2; exact h0 e2
  have a1 : (⟨B, j, none⟩ : Addr) ≠ ⟨B, o + 1, none⟩ := by intro e; injection e with _ e2; exact h1 e2
  exact ⟨(World.cell?_setCell_other _ _ _ _ a0).trans c0, (World.cell?_setCell_other _ _ _ _ a1).trans c1, by rw [World.frozen?_setCell]; exact f0, by rw [World.frozen?_setCell]; exact f1, ⟨l, hl, hV, ownsRow_setCell_other hown hap _⟩, hap, hlt⟩
theorem WAt.drew {w : World} {B o V n : Nat} {v : Value} (h : WAt w B o v V n) : WAt w.drew B o v V n := ⟨h.c0, h.c1, h.f0, h.f1, h.row, h.apart, h.lt⟩
theorem WAt.born {w : World} {B o V n : Nat} {v : Value} (h : WAt w B o v V n) (x : Obj) : WAt (w.alloc x) B o v V n := by
  obtain ⟨c0, c1, f0, f1, ⟨l, hl, hV, hown⟩, hap, hlt⟩ := h
  have hB : B < w.heap.size := World.block_lt_of_cell? w _ c0
  exact ⟨(World.cell?_alloc_past _ _ _ hB).trans c0, (World.cell?_alloc_past _ _ _ hB).trans c1, (World.frozen?_alloc_past _ _ _ hB).trans f0, (World.frozen?_alloc_past _ _ _ hB).trans f1, ⟨l, hl, hV, hown.alloc _⟩, hap, hlt⟩
theorem WAt.drewN {w : World} {B o V n : Nat} {v : Value} (h : WAt w B o v V n) (m : Nat) : WAt (w.drewN m) B o v V n := ⟨h.c0, h.c1, h.f0, h.f1, h.row, h.apart, h.lt⟩
def CodePost (w w' : World) (B V n : Nat) (v : Value) (e : Ending) : Prop := e = .returned (.tuple #[]) ∧ ∃ v', WAt w' B 0 v' V n ∧ WStep w w' B 0 v v'
theorem code_calls (B n V x k : Nat) (v : Value) (w : World) (hW : WAt w B 0 v V n) (h3 : w.cell? ⟨B, 3, none⟩ = some (.int .i64 (k : Int))) (hk : k ≤ 32) (hx : x < 2 ^ k) (hn : n + 32 < 1099511627776) :
    Calls Tryd.prog 41 #[.pointer (some ⟨B, 0, none⟩), .int .i64 (x : Int)] w fun e w' => CodePost w w' B (V + x * 2 ^ n) (n + k) v e := by
  have hx32 : x < 4294967296 := Nat.lt_of_lt_of_le hx (Nat.pow_le_pow_right (n := 2) (by decide) hk)
  have hwx : IntKind.u32.wrap (x : Int) = (x : Int) := by unfold IntKind.wrap; simp [IntKind.bits, IntKind.signed]; omega
  have HP := Lib.hid (fun w5 (h : WAt w5 B 0 v V n) => put_in B 0 n V x k v w5 h hk hx hn)
  have HW := Lib.hid hW
  clear hW hx
  go_enter Tryd.func41, Tryd.ntmps41
  go_still_tail 9, (by kernel_rfl)
  go_wp2_with fail
  refine (HP.out _ HW.out.drew).mono ?_
  rintro e w2 ⟨rfl, v', hA, hS⟩
  have HA := Lib.hid hA
  have HS := Lib.hid hS
  clear hA hS
  go_wp2_with fail
  go_end0
  exact ⟨rfl, v', HA.out, ⟨⟨HS.out.keeps.os, HS.out.keeps.tape, HS.out.keeps.output, HS.out.keeps.size, HS.out.keeps.block⟩, HS.out.cells, HS.out.marks, HS.out.new⟩⟩
def ClearPost (w w' : World) (B : Nat) (v : Value) (e : Ending) : Prop := e = .returned (.tuple #[]) ∧ ∃ v', WAt w' B 0 v' 4 3 ∧ w'.cell? ⟨B, 2, none⟩ = some (.int .i64 2) ∧ w'.cell? ⟨B, 3, none⟩ = some (.int .i64 3) ∧ w'.cell? ⟨B, 4, none⟩ = some (.int .i64 6) ∧ Keeps (fun k => k = B ∨ v.ownBlock = some k) w w' ∧ (∀ k, v'.ownBlock = some k → v.ownBlock = some k ∨ w.heap.size ≤ k)
theorem clear2 (B : Nat) (v z m : Value) (w : World) (hW : WAt w B 0 v 0 0) (h2 : w.cell? ⟨B, 2, none⟩ = some (.int .i64 2)) (h3 : w.cell? ⟨B, 3, none⟩ = some (.int .i64 3)) (h4 : w.cell? ⟨B, 4, none⟩ = some z) (h5 : w.cell? ⟨B, 5, none⟩ = some m)
    (f3 : w.frozen? ⟨B, 3, none⟩ = false) (f4 : w.frozen? ⟨B, 4, none⟩ = false) (f5 : w.frozen? ⟨B, 5, none⟩ = false) :
    Calls Tryd.prog 40 #[.pointer (some ⟨B, 0, none⟩)] w fun e w' => ClearPost w w' B v e := by
  have HC : Hid (Calls Tryd.prog 41 #[.pointer (some ⟨B, 0, none⟩), .int .i64 4] w fun e w' => CodePost w w' B 4 3 v e) := Lib.hid (code_calls B 0 0 4 3 v w hW h3 (by decide) (by decide) (by decide))
  have HH := Lib.hid (And.intro h2 (And.intro h3 (And.intro h4 h5)))
  have HF := Lib.hid (And.intro f3 (And.intro f4 f5))
  clear hW h3 h4 h5 f3 f4 f5
  go_enter Tryd.func40, Tryd.ntmps40
  go_wp2_with fail
  clear h2
  refine HC.out.mono ?_
  rintro e w2 ⟨rfl, v', hA, hS⟩
  have HA := Lib.hid hA
  have HS := Lib.hid hS
  have c2 := (hS.cells 2 (by decide) (by decide)).trans HH.out.1
  have c3 := (hS.cells 3 (by decide) (by decide)).trans HH.out.2.1
  have c4 := (hS.cells 4 (by decide) (by decide)).trans HH.out.2.2.1
  have c5 := (hS.cells 5 (by decide) (by decide)).trans HH.out.2.2.2
  have g3 := (hS.marks 3).trans HF.out.1
  have g4 := (hS.marks 4).trans HF.out.2.1
  have g5 := (hS.marks 5).trans HF.out.2.2
  have hB : B < w2.heap.size := World.block_lt_of_cell? w2 _ c2
  clear hA hS
  have hmm := @run_makeMap Tryd.prog
  go_wp2_with fail
  go_region
  all_goals
    go_end0
    refine ⟨rfl, v', ?_, ?_, ?_, ?_, ?_, HS.out.new⟩
    · repeat (first | exact HA.out | refine WAt.other ?_ _ _ (by decide) (by decide) | refine WAt.born ?_ _ | refine WAt.drew ?_)
    · first | (go_simp; done) | (simp; done)
    · first | (go_simp; done) | (simp; done)
    · first | (go_simp; done) | (simp; done)
    · repeat (first | exact HS.out.keeps | refine Keeps.setCell ?_ (.inl (.inl rfl)) _ | refine Keeps.alloc ?_ _ | refine Keeps.drew ?_)
theorem bad2 (w : World) : Calls Tryd.prog 39 #[.int .i64 2] w fun e w' => e = .returned (.bool false) ∧ w = w' := by
  go_enter Tryd.func39, Tryd.ntmps39
  go_wp2
  go_ret
  exact ⟨rfl, rfl⟩
theorem num_44 (l : List UInt8) (hl : l.length = 1) (h : Crc.num l = 44) : l = [44] := by
  match l, hl with
  | [b], _ =>
    have : b.toNat + 256 * 0 = 44 := h
    have h2 : b.toNat = (44 : UInt8).toNat := by simpa using this
    rw [UInt8.toNat_inj.1 h2]
theorem pack_none (w : World) : Calls Tryd.prog 12 #[.string ⟨#[]⟩, .int .i64 2] w fun e w' => e = .returned (.tuple #[.string ⟨#[44]⟩, .nilIface]) ∧ Ext w w' := by
  go_enter Tryd.func12, Tryd.ntmps12
  go_wp2_with fail
  refine (bad2 _).mono ?_
  rintro e w1 ⟨rfl, rfl⟩
  go_wp2_with fail
  refine wp_loop_rounds 1 ?_
  rw [rounds_succ]
  go_wp2_with fail
  refine calls_world (fun wz => Ext w wz ∧ wz.heap.size = w.heap.size + 1 ∧ Bk wz (w.heap.size) #[.slice none 0 0, .int .i64 0, .int .i64 2, .int .i64 3, .int .i64 0, .map none]) ⟨by repeat (first | exact Ext.refl _ | refine Ext.alloc ?_ _), by simp, by repeat (first | exact Bk.at (by simp) | refine Bk.old ?_)⟩ ?_
  rintro wa ⟨hX, hZ, hB0⟩
  have hsz : w.heap.size + 1 ≤ wa.heap.size := by rw [hZ]; exact Nat.le_refl _
  have HX := Lib.hid hX
  refine (clear2 w.heap.size (.slice none 0 0) (.int .i64 0) (.map none) wa ⟨hB0.cell 0, hB0.cell 1, hB0.frozen 0, hB0.frozen 1, ⟨[], rfl, rfl, World.ownsRow_nil _ _ _ _⟩, (by intro e; cases e), by decide⟩ (hB0.cell 2) (hB0.cell 3) (hB0.cell 4) (hB0.cell 5) (hB0.frozen 3) (hB0.frozen 4) (hB0.frozen 5)).mono ?_
  rintro e w2 ⟨rfl, v', hA, c2, c3, c4, hK, hN⟩
  have X2 : Hid (Ext w w2) := Lib.hid (Below.trans HX.out (hK.below (by omega) (fun k hk q => by
    rcases q with q | q
    · omega
    · cases q)))
  have HV : Hid (∀ k, v'.ownBlock = some k → w.heap.size ≤ k) := Lib.hid (fun k hk => by
    rcases hN k hk with q | q
    · cases q
    · omega)
  have hsz2 : Hid (w.heap.size ≤ w2.heap.size) := Lib.hid X2.out.size
  have HA := Lib.hid hA
  clear hX hZ hB0 hA hK hN hsz
  go_wp2_with fail
  refine wp_loop_rounds 1 ?_
  rw [rounds_succ]
  go_wp2_with fail
  go_quiet (fail)
  go_wp2_with fail
  have HC : Hid (Calls Tryd.prog 41 #[.pointer (some ⟨w.heap.size, 0, none⟩), .int .i64 5] (w2.drewN nq) fun e w' => CodePost (w2.drewN nq) w' w.heap.size 44 6 v' e) := Lib.hid (code_calls w.heap.size 3 4 5 3 v' (w2.drewN nq) (HA.out.drewN nq) c3 (by decide) (by decide) (by decide))
  refine HC.out.mono ?_
  rintro e w3 ⟨rfl, v3, hA3, hS3⟩
  have X3 : Hid (Ext w w3) := Lib.hid (Below.trans (Ext.drewN X2.out nq) (hS3.below (Nat.le_refl _) HV.out hsz2.out))
  have HA3 := Lib.hid hA3
  clear hA3 hS3 c2 c3 c4
  go_wp2_with fail
  refine (text_calls w.heap.size 0 6 44 v3 w3 HA3.out).mono ?_
  rintro e w4 ⟨⟨l, hl, hV, rfl⟩, rfl⟩
  obtain rfl := num_44 l hl hV
  go_wp2_with fail
  go_ret2
  exact ⟨rfl, X3.out⟩
theorem end_any (w : World) : Calls Tryd.prog 11 #[] w fun e w' => e = .returned (.bool true) ∧ Ext w w' := by
  go_enter Tryd.func11, Tryd.ntmps11
  go_wp2_with fail
  refine (pack_none _).mono ?_
  rintro e w1 ⟨rfl, h1⟩
  have X1 := Lib.hid h1
  clear h1
  go_wp2_with fail
  go_ret
  exact ⟨rfl, X1.out⟩
end Go.Proofs.YtdeiolagnheihaaDoor
