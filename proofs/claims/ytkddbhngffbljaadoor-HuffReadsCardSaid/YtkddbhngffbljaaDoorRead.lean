/- huff.Read: a tree of a code. -/
import Derived.Test.YtkddbhngffbljaaDoorSyms
import Derived.Test.YtkddbhngffbljaaDoorApart
import Derived.Test.YtkddbhngffbljaaDoorErrs
import Derived.Test.YtkddbhngffbljaaDoorRefValid
import Derived.Outline
namespace Go.Proofs.YtkddbhngffbljaaDoor
open Go.RowKit
set_option maxRecDepth 100000
def symV (l : List Nat) : List Value := l.map fun i : Nat => Value.int .i64 (i : Int)
/-- a tree as it lies in memory: of each length how many words, and the symbols -/
structure TAt (w : World) (T : Nat) (v : Value) (f : Nat → Int) (len : Nat) (l : List Nat) : Prop where
  many : ∀ j, j < 16 → w.cell? ⟨T, j, none⟩ = some (.int .i64 (many f j len : Int))
  cell : w.cell? ⟨T, 16, none⟩ = some v
  free : w.frozen? ⟨T, 16, none⟩ = false
  row : w.ownsRow 0 3 1 v l.length (symV l)
  apart : v.ownBlock ≠ some T
theorem tree_cells (F : Nat → Int) : Array.foldl (fun (cs : Array Value) (x : Value × Nat) => cs.setIfInBounds x.snd x.fst) #[.int .i64 0, .int .i64 0, .int .i64 0, .int .i64 0, .int .i64 0, .int .i64 0, .int .i64 0, .int .i64 0, .int .i64 0, .int .i64 0, .int .i64 0, .int .i64 0, .int .i64 0, .int .i64 0, .int .i64 0, .int .i64 0, .slice none 0 0] ((cellsI .i64 16 F).zipIdx) 0 16 = #[.int .i64 (F 0), .int .i64 (F 1), .int .i64 (F 2), .int .i64 (F 3), .int .i64 (F 4), .int .i64 (F 5), .int .i64 (F 6), .int .i64 (F 7), .int .i64 (F 8), .int .i64 (F 9), .int .i64 (F 10), .int .i64 (F 11), .int .i64 (F 12), .int .i64 (F 13), .int .i64 (F 14), .int .i64 (F 15), .slice none 0 0] := by
  rw [cells16_eq]
  kernel_rfl
theorem upTo_bd (f : Nat → Int) (len : Nat) : ∀ n, upTo f len n ≤ n * len := by
  intro n
  induction n with
  | zero => exact Nat.zero_le _
  | succ n ih => have := many_le f (n + 1) len; simp only [upTo, Nat.succ_mul]; omega
theorem tat_push {w wr w5 : World} {T : Nat} {v v' : Value} {f : Nat → Int} {len i : Nat} {l l0 : List Nat} {o : Obj} (hT : TAt wr T v f len l0) (hX : Ext w wr) (hTw : w.heap.size ≤ T) (hV : ∀ k, v.ownBlock = some k → w.heap.size ≤ k) (hl : l0 = l)
    (hgrow : (wr.alloc o).grownBy w5 v.ownBlock) (hown : w5.ownsRow 0 3 1 v' (l.length + 1) (symV l ++ [.int .i64 (i : Int)])) (hat : v'.ownBlock = v.ownBlock ∨ v'.ownBlock = some (wr.heap.size + 1)) :
    w5.cell? ⟨T, 16, none⟩ = some v ∧ w5.frozen? ⟨T, 16, none⟩ = false ∧ TAt (w5.setCell ⟨T, 16, none⟩ v') T v' f len (l ++ [i]) ∧ (∀ k, v'.ownBlock = some k → w.heap.size ≤ k) ∧ Ext w (w5.setCell ⟨T, 16, none⟩ v') := by
  subst hl
  have hlt : T < wr.heap.size := World.block_lt_of_cell? wr _ hT.cell
  have hlt2 : T < (wr.alloc o).heap.size := by rw [World.size_alloc]; omega
  have hk := Keeps.grown hgrow
  have hn : ¬ v.ownBlock = some T := hT.apart
  have cc : ∀ j, w5.cell? ⟨T, j, none⟩ = wr.cell? ⟨T, j, none⟩ := fun j => (hk.cell (p := ⟨T, j, none⟩) hlt2 hn).trans (World.cell?_alloc_past _ _ _ hlt)
  have ff : ∀ j, w5.frozen? ⟨T, j, none⟩ = wr.frozen? ⟨T, j, none⟩ := fun j => (hk.frozen (p := ⟨T, j, none⟩) hlt2 hn).trans (World.frozen?_alloc_past _ _ _ hlt)
  have hvT : v'.ownBlock ≠ some T := by
    rcases hat with q | q
    · rw [q]; exact hn
    · rw [q]; intro e; injection e with e; omega
  have hv' : ∀ k, v'.ownBlock = some k → w.heap.size ≤ k := by
    intro k hk
    rcases hat with q | q
    · rw [q] at hk; exact hV k hk
    · rw [q] at hk; injection hk with hk; have := hX.size; omega
  have hE : Ext w w5 := by
    have h1 : Ext w (wr.alloc o) := hX.alloc o
    exact ⟨hk.os.trans h1.os, hk.tape.trans h1.tape, hk.output.trans h1.output, Nat.le_trans h1.size hk.size, fun j hj => (hk.block j (by have := h1.size; omega) (fun q => by have := hV j q; omega)).trans (h1.block j hj)⟩
  refine ⟨(cc 16).trans hT.cell, (ff 16).trans hT.free, ⟨fun j hj => ?_, ?_, ?_, ?_, hvT⟩, hv', hE.setCell hTw _⟩
  · rw [World.cell?_setCell_other _ _ _ _ (by intro e; injection e with _ e; omega), cc]; exact hT.many j hj
  · exact World.cell?_setCell_same _ _ _ ((cc 16).trans hT.cell)
  · rw [World.frozen?_setCell, ff]; exact hT.free
  · have e : symV (l0 ++ [i]) = symV l0 ++ [.int .i64 (i : Int)] := by simp [symV]
    rw [e, List.length_append]
    exact ownsRow_setCell_other hown hvT _
theorem read_good (x : Option Addr) (len cap : Nat) (f : Nat → Int) (w : World) (E : Nat → Addr) (hE : Errs w E) (hx : Ints w x len f) (hb : inBounds f len) (hc : complete f len) :
    Calls Tryd.prog 39 #[.slice x len cap] w fun e w' => (∃ T v, w.heap.size ≤ T ∧ (∀ k, v.ownBlock = some k → w.heap.size ≤ k) ∧ e = .returned (.tuple #[.pointer (some ⟨T, 0, none⟩), .nilIface]) ∧ TAt w' T v f len (symA f len 15)) ∧ Ext w w' := by
  have hl := hb.1
  have HX := Lib.hid hx
  have HB := Lib.hid hb
  have HC := Lib.hid hc
  have HE := Lib.hid hE
  clear hx hb hc hE
  go_enter Tryd.func39, Tryd.ntmps39
  go_wp2_with fail
  refine (valid_calls x len cap f w HX.out (by unfold maxLen; omega) _ _ (HE.out.var 1 (by decide)) (HE.out.var 2 (by decide))).mono ?_
  rintro e w2 ⟨h2, h | h | h⟩
  rotate_left
  · exact absurd HB.out h.2
  · exact absurd HC.out h.2.2
  obtain ⟨rfl, _⟩ := h
  have X2 := Lib.hid h2
  clear h2
  go_wp2_with fail
  refine (words_calls x len cap f _ (HX.out.ext X2.out) (by unfold maxLen; omega) HB.out.2).mono ?_
  rintro e w3 ⟨rfl, rfl⟩
  have X3 := Lib.hid (X2.out.alloc (.cells (cellsI .i64 16 fun n => (many f n len : Int)) 91))
  go_wp2_with fail
  rw [tree_cells]
  refine wp_world (fun wz => Ext w wz ∧ w2.heap.size + 1 < wz.heap.size ∧ (∀ j, j < 16 → wz.cell? ⟨w2.heap.size + 1, j, none⟩ = some (.int .i64 (many f j len : Int))) ∧ wz.cell? ⟨w2.heap.size + 1, 16, none⟩ = some (.slice none 0 0) ∧ wz.frozen? ⟨w2.heap.size + 1, 16, none⟩ = false) ?_ ?_
  · refine ⟨X3.out.alloc _, by simp, fun j hj => ?_, ?_, ?_⟩
    · rw [World.cell?_alloc_at _ _ _ _ (by simp)]
      match j, hj with
      | 0, _ => rfl
      | 1, _ => rfl
      | 2, _ => rfl
      | 3, _ => rfl
      | 4, _ => rfl
      | 5, _ => rfl
      | 6, _ => rfl
      | 7, _ => rfl
      | 8, _ => rfl
      | 9, _ => rfl
      | 10, _ => rfl
      | 11, _ => rfl
      | 12, _ => rfl
      | 13, _ => rfl
      | 14, _ => rfl
      | 15, _ => rfl
      | n + 16, h => exact absurd h (by omega)
    · rw [World.cell?_alloc_at _ _ _ _ (by simp)]; rfl
    · rw [World.frozen?_alloc_at _ _ _ _ (by simp)]
  rintro w4 ⟨hX4, hT, hM, hc, hf⟩
  have X4 := Lib.hid hX4
  have TA : Hid (TAt w4 (w2.heap.size + 1) (.slice none 0 0) f len (symA f len 0)) := Lib.hid ⟨hM, hc, hf, World.ownsRow_nil _ _ _ _, by intro e; cases e⟩
  have hTw : w.heap.size ≤ w2.heap.size + 1 := by have := X2.out.size; omega
  clear hX4 hM hc hf X3
  generalize w2.heap.size + 1 = T at *
  obtain ⟨i0, hi0, hz0, hz1, hz2⟩ := info_parts i64info
  go_loopw [6] (fun c wr => ∃ (n : Nat) (v : Value), 1 ≤ n ∧ n ≤ 16 ∧ c = .int .i64 n ∧ Hid (TAt wr T v f len (symA f len (n - 1))) ∧ Hid (∀ k, v.ownBlock = some k → w.heap.size ≤ k) ∧ Hid (Ext w wr)) (fun c _ => 16 - (intOf c).toNat)
  case atStart => exact ⟨1, .slice none 0 0, by omega, by omega, rfl, TA, Lib.hid (fun k h => by cases h), X4⟩
  case round =>
    obtain ⟨n, v, hn1, hn2, rfl, HT, HV, HXt⟩ := hrel
    by_cases hlt : n < 16
    · have tn : decide ((n : Int) ≤ 15) = true := decide_eq_true (by omega)
      have HT0 : Hid (TAt wr T v f len (symA f len (n - 1) ++ symL f n 0)) := Lib.hid (by simp only [symL, List.append_nil]; exact HT.out)
      go_wp2_with fail
      go_loopw [24] (fun c wr => ∃ (i : Nat) (v : Value), i ≤ len ∧ c = .int .i64 i ∧ Hid (TAt wr T v f len (symA f len (n - 1) ++ symL f n i)) ∧ Hid (∀ k, v.ownBlock = some k → w.heap.size ≤ k) ∧ Hid (Ext w wr)) (fun c _ => len - (intOf c).toNat)
      case atStart => exact ⟨0, v, by omega, rfl, HT0, HV, HXt⟩
      case round =>
        clear HT HV HXt HT0
        obtain ⟨i, v, hi, rfl, HT, HV, HXt⟩ := hrel
        by_cases hil : i < len
        · obtain ⟨a, rfl⟩ : ∃ a, x = some a := by
            cases x with
            | none => have := HX.out.1 rfl; omega
            | some a => exact ⟨a, rfl⟩
          obtain ⟨hcell, f1, f2⟩ := (HX.out.ext HXt.out).2 a rfl i hil
          by_cases hfn : f i = n
          · have t1 : (f i == (n : Int)) = true := beq_iff_eq.2 hfn
            have HSY := Lib.hid (symL_yes f n i hfn)
            have hct := HT.out.cell
            have hft := HT.out.free
            have hrow := HT.out.row
            have hTz : T < wr.heap.size := World.block_lt_of_cell? wr _ hct
            obtain ⟨l, hl2⟩ : ∃ l, symA f len (n - 1) ++ symL f n i = l := ⟨_, rfl⟩
            have hll : l.length ≤ 5000 := by
              rw [← hl2, List.length_append, symA_length, symL_length]
              have q1 := many_le f n i
              have q2 := upTo_bd f len (n - 1)
              have q3 : (n - 1) * len ≤ 15 * 300 := Nat.mul_le_mul (by omega) hl
              omega
            rw [hl2] at hrow
            have HLL := Lib.hid hl2
            clear hl2 hfn
            go_wp2_with (at_builtin; refine wpList_append_own_at _ rfl _ _ 45 rfl 0 3 i0 (.int .i64 0) 1 8 Tryd.underlying45 hi0 hz0 hz1 hz2 rfl (by decide) _ _ _ rfl (hrow.alloc _) ⟨wr.heap.size, 0, none⟩ 1 1 [.int .i64 (i : Int)] rfl rfl ?c1 ?c2 ?c3 ?c4 ?c5 ?_)
            case c1 =>
              intro j u hj
              match j, hj with
              | 0, hj => simp only [List.getElem?_cons_zero, Option.some.injEq] at hj; subst hj; rw [add_plain, World.cell?_alloc_at _ _ _ _ rfl]; rfl
            case c2 => intro u hu; rw [List.mem_singleton.1 hu]; rfl
            case c3 => unfold maxLen; omega
            case c4 => omega
            case c5 => exact Nat.zero_le _
            intro v' w5 hown hgrow _ hat
            obtain ⟨g5, cap5, rfl, _, _⟩ := ownsRow_some hown (by omega)
            have P := tat_push HT.out HXt.out hTw HV.out HLL.out hgrow hown hat
            have c16 := P.1
            have f16 := P.2.1
            have HP := Lib.hid P.2.2
            have HT2 : Hid (TAt (w5.setCell ⟨T, 16, none⟩ (.slice (some ⟨g5, 0, none⟩) (l.length + 1) cap5)) T (.slice (some ⟨g5, 0, none⟩) (l.length + 1) cap5) f len (symA f len (n - 1) ++ symL f n (i + 1))) := Lib.hid (by rw [HSY.out, ← List.append_assoc, HLL.out]; exact HP.out.1)
            clear P hown hgrow hat hrow hct hft
            go_wp2_with fail
            go_roundw
            case rel => exact ⟨i + 1, _, by omega, by go_num, HT2, Lib.hid HP.out.2.1, Lib.hid HP.out.2.2⟩
            case measure => simp [intOf]; omega
          · have t1 : (f i == (n : Int)) = false := beq_eq_false_iff_ne.2 hfn
            have HSY := Lib.hid (symL_no f n i hfn)
            clear hfn
            go_wp2_with fail
            go_roundw
            case rel => exact ⟨i + 1, v, by omega, by go_num, by rw [HSY.out]; exact HT, HV, HXt⟩
            case measure => simp [intOf]; omega
        · obtain rfl : i = len := by omega
          go_wp2_with fail
          go_roundw
          case rel =>
            refine ⟨n + 1, v, by omega, by omega, by go_num, ?_, HV, HXt⟩
            have e : symA f i (n + 1 - 1) = symA f i (n - 1) ++ symL f n i := by
              obtain ⟨m, rfl⟩ : ∃ m, n = m + 1 := ⟨n - 1, by omega⟩
              rfl
            rw [e]; exact HT
          case measure => simp [intOf]; omega
    · obtain rfl : n = 16 := by omega
      go_wp2_with fail
      go_ret2
      exact ⟨⟨T, v, hTw, HV.out, rfl, HT.out⟩, HXt.out⟩
end Go.Proofs.YtkddbhngffbljaaDoor
