/-
  The document's word on lengths.
  huff.Read: a tree of a code.
  A reader of bits: contracts in terms of its text's number and its place.
  Get where it cannot: too wide, or no more bits.
  A writer that is new; what a writer, a reader did touched only new blocks. No function of the program is named.
  huff's Tree.Next: what symbol comes next.
  Symbols written by their words and read again: plain laws.
  Tokens: what they mean, as lists; rows of tokens as they lie in memory; a row of bytes that grows. No function of the program is named.
-/
import Derived.Test.YtnhbjgmfbcedaaaDoorDeflateStoredG2
import Derived.Outline
import Derived.Test.YtnhbjgmfbcedaaaDoorDeflateStoredG1
namespace Go.Proofs.YtnhbjgmfbcedaaaDoor
open Go.RowKit
set_option linter.unusedSimpArgs false
set_option maxRecDepth 100000
theorem kraft_snoc (f : Nat → Int) (i : Nat) (k : Nat) (hk : f i = k) : ∀ n, n ≤ 15 → kraft f (i + 1) n = kraft f i n + (if 1 ≤ k ∧ k ≤ n then 2 ^ (15 - k) else 0) := by
  intro n
  induction n with
  | zero => intro _; simp [kraft]; omega
  | succ n ih =>
    intro h
    have e := ih (by omega)
    simp only [kraft]
    rw [e]
    by_cases hkn : k = n + 1
    · subst hkn
      rw [many_at f (n + 1) i hk, if_neg (by omega), if_pos (by omega), Nat.add_mul, Nat.one_mul, show 15 - (n + 1) = 14 - n by omega]; omega
    · rw [many_not f (n + 1) i (by rw [hk]; omega)]
      by_cases h1 : 1 ≤ k ∧ k ≤ n
      · rw [if_pos h1, if_pos (by omega)]; omega
      · rw [if_neg h1, if_neg (by omega)]; omega
noncomputable def vcode (f : Nat → Int) (len : Nat) : Int :=
  open Classical in if inBounds f len then if complete f len then 0 else 3 else 2
theorem kraft_len (f : Nat → Int) (i : Nat) (h : i ≤ 300) : kraft f i 15 ≤ 73728000 := kraft_bound f i 15 h (by decide)
set_option maxHeartbeats 4000000 in
theorem validCode_any (x : Option Addr) (len cap : Nat) (f : Nat → Int) (w : World) (hx : Ints w x len f) (hl : len ≤ maxLen) :
    Calls Tryd.prog 111 #[.slice x len cap] w fun e w' => e = .returned (.int .i64 (vcode f len)) ∧ w = w' := by
  unfold maxLen at hl
  have HX := Lib.hid hx
  clear hx
  by_cases h300 : 300 < len
  · have hv : vcode f len = 2 := by unfold vcode; rw [if_neg (by intro h; have := h.1; omega)]
    rw [hv]
    go_enter Tryd.func111, Tryd.ntmps111
    go_wp2_with fail
    go_ret
    exact ⟨rfl, rfl⟩
  · go_enter Tryd.func111, Tryd.ntmps111
    go_wp2_with fail
    go_loop [3, 4, 5, 6] (fun u v o c => ∃ i : Nat, i ≤ len ∧ c = .int .i64 i ∧ u = .int .i64 (kraft f i 15 : Int) ∧ v = .int .i64 ((i - many f 0 i : Nat) : Int) ∧ o = .int .i64 (many f 1 i : Int) ∧ Hid (∀ j, j < i → 0 ≤ f j ∧ f j ≤ 15)) (fun _ _ _ c => len - (intOf c).toNat)
    case atStart => exact ⟨0, by omega, rfl, rfl, rfl, rfl, Lib.hid fun j hj => by omega⟩
    case round =>
      obtain ⟨i, hi, rfl, rfl, rfl, rfl, HF⟩ := hrel
      by_cases hlt : i < len
      · obtain ⟨a, rfl⟩ : ∃ a, x = some a := by
          cases x with
          | none => have := HX.out.1 rfl; omega
          | some a => exact ⟨a, rfl⟩
        obtain ⟨hc, h1, h2⟩ := HX.out.2 a rfl i hlt
        by_cases hbad : f i < 0 ∨ 15 < f i
        · have HV : Hid (vcode f len = 2) := Lib.hid (by unfold vcode; rw [if_neg (by intro h; have := h.2 i hlt; omega)])
          rcases hbad with q | q
          all_goals
            go_wp2_with fail
            go_ret
            exact ⟨by rw [HV.out]; rfl, rfl⟩
        · obtain ⟨k, hk⟩ : ∃ k : Nat, f i = k := ⟨(f i).toNat, by omega⟩
          have hk15 : k ≤ 15 := by omega
          have HFN : Hid (∀ j, j < i + 1 → 0 ≤ f j ∧ f j ≤ 15) := Lib.hid (fun j hj => by
            rcases Nat.lt_succ_iff_lt_or_eq.1 hj with q | rfl
            · exact HF.out j q
            · omega)
          have HKS := Lib.hid (kraft_snoc f i k hk 15 (by omega))
          have hkl := kraft_len f i (by omega)
          have hm0 := many_le f 0 i
          have hm1 := many_le f 1 i
          rw [hk] at hc h1 h2
          have HK := Lib.hid hk
          clear hk hbad
          by_cases h0 : k = 0
          · subst h0
            have HM0 := Lib.hid (many_at f 0 i HK.out)
            have HM1 := Lib.hid (many_not f 1 i (by rw [HK.out]; decide))
            go_wp2_with fail
            go_round
            case rel => exact ⟨i + 1, by omega, by go_num, by rw [HKS.out]; rfl, by rw [HM0.out]; exact val_int (by omega), by rw [HM1.out], HFN⟩
            case measure => simp [intOf]; omega
          · have HM0 := Lib.hid (many_not f 0 i (by rw [HK.out]; omega))
            obtain ⟨d, hd⟩ : ∃ d, 15 - k = d := ⟨_, rfl⟩
            have hd2 : (15 : Int) - (k : Int) = (d : Int) := by omega
            have hd15 : d ≤ 14 := by omega
            have hp2 : 2 ^ d ≤ 16384 := Nat.pow_le_pow_right (n := 2) (by decide) hd15
            have HKS2 : Hid (kraft f (i + 1) 15 = kraft f i 15 + 2 ^ d) := Lib.hid (by rw [HKS.out, if_pos (by omega), hd])
            have HD := Lib.hid hd
            have hq1 : (2 : Int) ^ d ≤ 16384 := by rw [show (2 : Int) ^ d = ((2 ^ d : Nat) : Int) by simp]; omega
            have hq2 : (0 : Int) ≤ (2 : Int) ^ d := by rw [show (2 : Int) ^ d = ((2 ^ d : Nat) : Int) by simp]; exact Int.natCast_nonneg _
            have t0 : ((k : Int) == 0) = false := beq_eq_false_iff_ne.2 (by omega)
            clear hd
            by_cases hk1 : k = 1
            · have t1 : ((k : Int) == 1) = true := beq_iff_eq.2 (by omega)
              have HM1 := Lib.hid (many_at f 1 i (by rw [HK.out, hk1]))
              clear hk1
              go_wp2_with fail
              go_round
              case rel => exact ⟨i + 1, by omega, by go_num, by rw [HKS2.out]; exact val_int (by simp), by rw [HM0.out]; exact val_int (by omega), by rw [HM1.out]; go_num, HFN⟩
              case measure => simp [intOf]; omega
            · have t1 : ((k : Int) == 1) = false := beq_eq_false_iff_ne.2 (by omega)
              have HM1 := Lib.hid (many_not f 1 i (by rw [HK.out]; omega))
              go_wp2_with fail
              go_round
              case rel => exact ⟨i + 1, by omega, by go_num, by rw [HKS2.out]; exact val_int (by simp), by rw [HM0.out]; exact val_int (by omega), by rw [HM1.out], HFN⟩
              case measure => simp [intOf]; omega
      · obtain rfl : i = len := by omega
        have hin : inBounds f i := ⟨by omega, HF.out⟩
        have hm0 := many_le f 0 i
        have hC : complete f i ↔ (i - many f 0 i = 0 ∨ (i - many f 0 i = 1 ∧ many f 1 i = 1) ∨ kraft f i 15 = 32768) := by
          unfold complete
          constructor
          · rintro (h | ⟨h, h'⟩ | h)
            · left; omega
            · right; left; exact ⟨by omega, h'⟩
            · right; right; exact h
          · rintro (h | ⟨h, h'⟩ | h)
            · left; omega
            · right; left; exact ⟨by omega, h'⟩
            · right; right; exact h
        have hkl := kraft_len f i (by omega)
        have hv1 : complete f i → vcode f i = 0 := fun h => by unfold vcode; rw [if_pos hin, if_pos h]
        have hv2 : ¬ complete f i → vcode f i = 3 := fun h => by unfold vcode; rw [if_pos hin, if_neg h]
        rw [hC] at hv1 hv2
        have HV1 := Lib.hid hv1
        have HV2 := Lib.hid hv2
        clear hv1 hv2 hC hin
        have ho := many_le f 1 i
        generalize i - many f 0 i = s at *
        generalize many f 1 i = o at *
        generalize kraft f i 15 = K at *
        by_cases h0 : s = 0
        · have HV := Lib.hid (HV1.out (.inl h0))
          have t0 : ((s : Int) == 0) = true := beq_iff_eq.2 (by omega)
          clear h0
          go_wp2_with fail
          go_ret
          exact ⟨by rw [HV.out]; rfl, rfl⟩
        · have t0 : ((s : Int) == 0) = false := beq_eq_false_iff_ne.2 (by omega)
          by_cases h1 : s = 1 ∧ o = 1
          · have HV := Lib.hid (HV1.out (.inr (.inl h1)))
            have t1 : ((s : Int) == 1) = true := beq_iff_eq.2 (by omega)
            have t2 : ((o : Int) == 1) = true := beq_iff_eq.2 (by omega)
            clear h0 h1
            go_wp2_with fail
            go_ret
            exact ⟨by rw [HV.out]; rfl, rfl⟩
          · by_cases hK : K = 32768
            · have HV := Lib.hid (HV1.out (.inr (.inr hK)))
              have t3 : ((K : Int) == 32768) = true := beq_iff_eq.2 (by omega)
              by_cases hs1 : s = 1
              · have t1 : ((s : Int) == 1) = true := beq_iff_eq.2 (by omega)
                have t2 : ((o : Int) == 1) = false := beq_eq_false_iff_ne.2 (by omega)
                clear h0 h1 hK hs1
                go_wp2_with fail
                go_ret
                exact ⟨by rw [HV.out]; rfl, rfl⟩
              · have t1 : ((s : Int) == 1) = false := beq_eq_false_iff_ne.2 (by omega)
                clear h0 h1 hK hs1
                go_wp2_with fail
                go_ret
                exact ⟨by rw [HV.out]; rfl, rfl⟩
            · have HV := Lib.hid (HV2.out (fun q => by rcases q with q | q | q; exact h0 q; exact h1 q; exact hK q))
              have t3 : ((K : Int) == 32768) = false := beq_eq_false_iff_ne.2 (by omega)
              by_cases hs1 : s = 1
              · have t1 : ((s : Int) == 1) = true := beq_iff_eq.2 (by omega)
                have t2 : ((o : Int) == 1) = false := beq_eq_false_iff_ne.2 (by omega)
                clear h0 h1 hK hs1
                go_wp2_with fail
                go_ret
                exact ⟨by rw [HV.out]; rfl, rfl⟩
              · have t1 : ((s : Int) == 1) = false := beq_eq_false_iff_ne.2 (by omega)
                clear h0 h1 hK hs1
                go_wp2_with fail
                go_ret
                exact ⟨by rw [HV.out]; rfl, rfl⟩
end Go.Proofs.YtnhbjgmfbcedaaaDoor
namespace Go.Proofs.YtnhbjgmfbcedaaaDoor
open Go.RowKit
set_option linter.unusedSimpArgs false
set_option maxRecDepth 100000
def symV (l : List Nat) : List Value := l.map fun i : Nat => Value.int .i64 (i : Int)
/-- a tree as it lies in memory: of each length how many words, and the symbols -/
structure TAt (w : World) (T : Nat) (v : Value) (f : Nat → Int) (len : Nat) (l : List Nat) : Prop where
  many : ∀ j, j < 16 → w.cell? ⟨T, j, none⟩ = some (.int .i64 (many f j len : Int))
  cell : w.cell? ⟨T, 16, none⟩ = some v
  free : w.frozen? ⟨T, 16, none⟩ = false
  row : w.ownsRow 0 3 1 v l.length (symV l)
  apart : v.ownBlock ≠ some T
theorem tree_cells (F : Nat → Int) : Array.foldl (fun (cs : Array Value) (x : Value × Nat) => cs.setIfInBounds x.snd x.fst) #[.int .i64 0, .int .i64 0, .int .i64 0, .int .i64 0, .int .i64 0, .int .i64 0, .int .i64 0, .int .i64 0, .int .i64 0, .int .i64 0, .int .i64 0, .int .i64 0, .int .i64 0, .int .i64 0, .int .i64 0, .int .i64 0, .slice none 0 0] ((cellsI .i64 16 F).zipIdx) 0 16 = #[.int .i64 (F 0), .int .i64 (F 1), .int .i64 (F 2), .int .i64 (F 3), .int .i64 (F 4), .int .i64 (F 5), .int .i64 (F 6), .int .i64 (F 7), .int .i64 (F 8), .int .i64 (F 9), .int .i64 (F 10), .int .i64 (F 11), .int .i64 (F 12), .int .i64 (F 13), .int .i64 (F 14), .int .i64 (F 15), .slice none 0 0] := by
  rw [cells16_eq]
  kernel_rfl
theorem upTo_bd (f : Nat → Int) (len : Nat) : ∀ n, upTo f len n ≤ n * len := by
  intro n
  induction n with
  | zero => exact Nat.zero_le _
  | succ n ih => have := many_le f (n + 1) len; simp only [upTo, Nat.succ_mul]; omega
theorem tat_push {w wr w5 : World} {T : Nat} {v v' : Value} {f : Nat → Int} {len i : Nat} {l l0 : List Nat} {o : Obj} (hT : TAt wr T v f len l0) (hX : Ext w wr) (hTw : w.heap.size ≤ T) (hV : ∀ k, v.ownBlock = some k → w.heap.size ≤ k) (hl : l0 = l)
    (hgrow : (wr.alloc o).grownBy w5 v.ownBlock) (hown : w5.ownsRow 0 3 1 v' (l.length + 1) (symV l ++ [.int .i64 (i : Int)])) (hat : v'.ownBlock = v.ownBlock ∨ v'.ownBlock = some (wr.heap.size + 1)) :
    w5.cell? ⟨T, 16, none⟩ = some v ∧ w5.frozen? ⟨T, 16, none⟩ = false ∧ TAt (w5.setCell ⟨T, 16, none⟩ v') T v' f len (l ++ [i]) ∧ (∀ k, v'.ownBlock = some k → w.heap.size ≤ k) ∧ Ext w (w5.setCell ⟨T, 16, none⟩ v') := by
  subst hl
  have hlt : T < wr.heap.size := World.block_lt_of_cell? wr _ hT.cell
  have hlt2 : T < (wr.alloc o).heap.size := by rw [World.size_alloc]; omega
  have hk := Keeps.grown hgrow
  have hn : ¬ v.ownBlock = some T := hT.apart
  have cc : ∀ j, w5.cell? ⟨T, j, none⟩ = wr.cell? ⟨T, j, none⟩ := fun j => (hk.cell (p := ⟨T, j, none⟩) hlt2 hn).trans (World.cell?_alloc_past _ _ _ hlt)
  have ff : ∀ j, w5.frozen? ⟨T, j, none⟩ = wr.frozen? ⟨T, j, none⟩ := fun j => (hk.frozen (p := ⟨T, j, none⟩) hlt2 hn).trans (World.frozen?_alloc_past _ _ _ hlt)
  have hvT : v'.ownBlock ≠ some T := by
    rcases hat with q | q
    · rw [q]; exact hn
    · rw [q]; intro e; injection e with e; omega
  have hv' : ∀ k, v'.ownBlock = some k → w.heap.size ≤ k := by
    intro k hk
    rcases hat with q | q
    · rw [q] at hk; exact hV k hk
    · rw [q] at hk; injection hk with hk; have := hX.size; omega
  have hE : Ext w w5 := by
    have h1 : Ext w (wr.alloc o) := hX.alloc o
    exact ⟨hk.os.trans h1.os, hk.tape.trans h1.tape, hk.output.trans h1.output, Nat.le_trans h1.size hk.size, fun j hj => (hk.block j (by have := h1.size; omega) (fun q => by have := hV j q; omega)).trans (h1.block j hj)⟩
  refine ⟨(cc 16).trans hT.cell, (ff 16).trans hT.free, ⟨fun j hj => ?_, ?_, ?_, ?_, hvT⟩, hv', hE.setCell hTw _⟩
  · rw [World.cell?_setCell_other _ _ _ _ (by intro e; injection e with _ e; omega), cc]; exact hT.many j hj
  · exact World.cell?_setCell_same _ _ _ ((cc 16).trans hT.cell)
  · rw [World.frozen?_setCell, ff]; exact hT.free
  · have e : symV (l0 ++ [i]) = symV l0 ++ [.int .i64 (i : Int)] := by simp [symV]
    rw [e, List.length_append]
    exact ownsRow_setCell_other hown hvT _
theorem read_good (x : Option Addr) (len cap : Nat) (f : Nat → Int) (w : World) (E : Nat → Addr) (hE : Errs w E) (hx : Ints w x len f) (hb : inBounds f len) (hc : complete f len) :
    Calls Tryd.prog 108 #[.slice x len cap] w fun e w' => (∃ T v, w.heap.size ≤ T ∧ (∀ k, v.ownBlock = some k → w.heap.size ≤ k) ∧ e = .returned (.tuple #[.pointer (some ⟨T, 0, none⟩), .nilIface]) ∧ TAt w' T v f len (symA f len 15)) ∧ Ext w w' := by
  have hl := hb.1
  have HX := Lib.hid hx
  have HB := Lib.hid hb
  have HC := Lib.hid hc
  have HE := Lib.hid hE
  clear hx hb hc hE
  go_enter Tryd.func108, Tryd.ntmps108
  go_wp2_with fail
  refine (valid_calls x len cap f w HX.out (by unfold maxLen; omega) _ _ (HE.out.var 1 (by decide)) (HE.out.var 2 (by decide))).mono ?_
  rintro e w2 ⟨h2, h | h | h⟩
  rotate_left
  · exact absurd HB.out h.2
  · exact absurd HC.out h.2.2
  obtain ⟨rfl, _⟩ := h
  have X2 := Lib.hid h2
  clear h2
  go_wp2_with fail
  refine (words_calls x len cap f _ (HX.out.ext X2.out) (by unfold maxLen; omega) HB.out.2).mono ?_
  rintro e w3 ⟨rfl, rfl⟩
  have X3 := Lib.hid (X2.out.alloc (.cells (cellsI .i64 16 fun n => (many f n len : Int)) 175))
  go_wp2_with fail
  rw [tree_cells]
  refine wp_world (fun wz => Ext w wz ∧ w2.heap.size + 1 < wz.heap.size ∧ (∀ j, j < 16 → wz.cell? ⟨w2.heap.size + 1, j, none⟩ = some (.int .i64 (many f j len : Int))) ∧ wz.cell? ⟨w2.heap.size + 1, 16, none⟩ = some (.slice none 0 0) ∧ wz.frozen? ⟨w2.heap.size + 1, 16, none⟩ = false) ?_ ?_
  · refine ⟨X3.out.alloc _, by simp, fun j hj => ?_, ?_, ?_⟩
    · rw [World.cell?_alloc_at _ _ _ _ (by simp)]
      match j, hj with
      | 0, _ => rfl
      | 1, _ => rfl
      | 2, _ => rfl
      | 3, _ => rfl
      | 4, _ => rfl
      | 5, _ => rfl
      | 6, _ => rfl
      | 7, _ => rfl
      | 8, _ => rfl
      | 9, _ => rfl
      | 10, _ => rfl
      | 11, _ => rfl
      | 12, _ => rfl
      | 13, _ => rfl
      | 14, _ => rfl
      | 15, _ => rfl
      | n + 16, h => exact absurd h (by omega)
    · rw [World.cell?_alloc_at _ _ _ _ (by simp)]; rfl
    · rw [World.frozen?_alloc_at _ _ _ _ (by simp)]
  rintro w4 ⟨hX4, hT, hM, hc, hf⟩
  have X4 := Lib.hid hX4
  have TA : Hid (TAt w4 (w2.heap.size + 1) (.slice none 0 0) f len (symA f len 0)) := Lib.hid ⟨hM, hc, hf, World.ownsRow_nil _ _ _ _, by intro e; cases e⟩
  have hTw : w.heap.size ≤ w2.heap.size + 1 := by have := X2.out.size; omega
  clear hX4 hM hc hf X3
  generalize w2.heap.size + 1 = T at *
  obtain ⟨i0, hi0, hz0, hz1, hz2⟩ := info_parts i64info
  go_loopw [6] (fun c wr => ∃ (n : Nat) (v : Value), 1 ≤ n ∧ n ≤ 16 ∧ c = .int .i64 n ∧ Hid (TAt wr T v f len (symA f len (n - 1))) ∧ Hid (∀ k, v.ownBlock = some k → w.heap.size ≤ k) ∧ Hid (Ext w wr)) (fun c _ => 16 - (intOf c).toNat)
  case atStart => exact ⟨1, .slice none 0 0, by omega, by omega, rfl, TA, Lib.hid (fun k h => by cases h), X4⟩
  case round =>
    obtain ⟨n, v, hn1, hn2, rfl, HT, HV, HXt⟩ := hrel
    by_cases hlt : n < 16
    · have tn : decide ((n : Int) ≤ 15) = true := decide_eq_true (by omega)
      have HT0 : Hid (TAt wr T v f len (symA f len (n - 1) ++ symL f n 0)) := Lib.hid (by simp only [symL, List.append_nil]; exact HT.out)
      go_wp2_with fail
      go_loopw [24] (fun c wr => ∃ (i : Nat) (v : Value), i ≤ len ∧ c = .int .i64 i ∧ Hid (TAt wr T v f len (symA f len (n - 1) ++ symL f n i)) ∧ Hid (∀ k, v.ownBlock = some k → w.heap.size ≤ k) ∧ Hid (Ext w wr)) (fun c _ => len - (intOf c).toNat)
      case atStart => exact ⟨0, v, by omega, rfl, HT0, HV, HXt⟩
      case round =>
        clear HT HV HXt HT0
        obtain ⟨i, v, hi, rfl, HT, HV, HXt⟩ := hrel
        by_cases hil : i < len
        · obtain ⟨a, rfl⟩ : ∃ a, x = some a := by
            cases x with
            | none => have := HX.out.1 rfl; omega
            | some a => exact ⟨a, rfl⟩
          obtain ⟨hcell, f1, f2⟩ := (HX.out.ext HXt.out).2 a rfl i hil
          by_cases hfn : f i = n
          · have t1 : (f i == (n : Int)) = true := beq_iff_eq.2 hfn
            have HSY := Lib.hid (symL_yes f n i hfn)
            have hct := HT.out.cell
            have hft := HT.out.free
            have hrow := HT.out.row
            have hTz : T < wr.heap.size := World.block_lt_of_cell? wr _ hct
            obtain ⟨l, hl2⟩ : ∃ l, symA f len (n - 1) ++ symL f n i = l := ⟨_, rfl⟩
            have hll : l.length ≤ 5000 := by
              rw [← hl2, List.length_append, symA_length, symL_length]
              have q1 := many_le f n i
              have q2 := upTo_bd f len (n - 1)
              have q3 : (n - 1) * len ≤ 15 * 300 := Nat.mul_le_mul (by omega) hl
              omega
            rw [hl2] at hrow
            have HLL := Lib.hid hl2
            clear hl2 hfn
            go_wp2_with (at_builtin; refine wpList_append_own_at _ rfl _ _ 31 rfl 0 3 i0 (.int .i64 0) 1 8 Tryd.underlying31 hi0 hz0 hz1 hz2 rfl (by decide) _ _ _ rfl (hrow.alloc _) ⟨wr.heap.size, 0, none⟩ 1 1 [.int .i64 (i : Int)] rfl rfl ?c1 ?c2 ?c3 ?c4 ?c5 ?_)
            case c1 =>
              intro j u hj
              match j, hj with
              | 0, hj => simp only [List.getElem?_cons_zero, Option.some.injEq] at hj; subst hj; rw [add_plain, World.cell?_alloc_at _ _ _ _ rfl]; rfl
            case c2 => intro u hu; rw [List.mem_singleton.1 hu]; rfl
            case c3 => unfold maxLen; omega
            case c4 => omega
            case c5 => exact Nat.zero_le _
            intro v' w5 hown hgrow _ hat
            obtain ⟨g5, cap5, rfl, _, _⟩ := ownsRow_some hown (by omega)
            have P := tat_push HT.out HXt.out hTw HV.out HLL.out hgrow hown hat
            have c16 := P.1
            have f16 := P.2.1
            have HP := Lib.hid P.2.2
            have HT2 : Hid (TAt (w5.setCell ⟨T, 16, none⟩ (.slice (some ⟨g5, 0, none⟩) (l.length + 1) cap5)) T (.slice (some ⟨g5, 0, none⟩) (l.length + 1) cap5) f len (symA f len (n - 1) ++ symL f n (i + 1))) := Lib.hid (by rw [HSY.out, ← List.append_assoc, HLL.out]; exact HP.out.1)
            clear P hown hgrow hat hrow hct hft
            go_wp2_with fail
            go_roundw
            case rel => exact ⟨i + 1, _, by omega, by go_num, HT2, Lib.hid HP.out.2.1, Lib.hid HP.out.2.2⟩
            case measure => simp [intOf]; omega
          · have t1 : (f i == (n : Int)) = false := beq_eq_false_iff_ne.2 hfn
            have HSY := Lib.hid (symL_no f n i hfn)
            clear hfn
            go_wp2_with fail
            go_roundw
            case rel => exact ⟨i + 1, v, by omega, by go_num, by rw [HSY.out]; exact HT, HV, HXt⟩
            case measure => simp [intOf]; omega
        · obtain rfl : i = len := by omega
          go_wp2_with fail
          go_roundw
          case rel =>
            refine ⟨n + 1, v, by omega, by omega, by go_num, ?_, HV, HXt⟩
            have e : symA f i (n + 1 - 1) = symA f i (n - 1) ++ symL f n i := by
              obtain ⟨m, rfl⟩ : ∃ m, n = m + 1 := ⟨n - 1, by omega⟩
              rfl
            rw [e]; exact HT
          case measure => simp [intOf]; omega
    · obtain rfl : n = 16 := by omega
      go_wp2_with fail
      go_ret2
      exact ⟨⟨T, v, hTw, HV.out, rfl, HT.out⟩, HXt.out⟩
end Go.Proofs.YtnhbjgmfbcedaaaDoor
namespace Go.Proofs.YtnhbjgmfbcedaaaDoor
open Go.RowKit
set_option linter.unusedSimpArgs false
set_option maxRecDepth 100000
structure RAt (w : World) (B o : Nat) (s : ByteArray) (a : Nat) : Prop where
  c0 : w.cell? ⟨B, o, none⟩ = some (.string s)
  c1 : w.cell? ⟨B, o + 1, none⟩ = some (.int .i64 (a : Int))
  f1 : w.frozen? ⟨B, o + 1, none⟩ = false
  size : s.size ≤ 1099511627776
  le : a ≤ 8 * s.size + 8
structure RStep (w w' : World) (B o : Nat) : Prop where
  keeps : Keeps (fun k => k = B) w w'
  cells : ∀ j, j ≠ o + 1 → w'.cell? ⟨B, j, none⟩ = w.cell? ⟨B, j, none⟩
  marks : ∀ j, w'.frozen? ⟨B, j, none⟩ = w.frozen? ⟨B, j, none⟩
theorem RStep.refl (w : World) (B o : Nat) : RStep w w B o := ⟨Keeps.refl _ _, fun _ _ => rfl, fun _ => rfl⟩
theorem RStep.trans {a b c : World} {B o : Nat} (h : RStep a b B o) (k : RStep b c B o) : RStep a c B o :=
  ⟨h.keeps.trans k.keeps fun _ _ q => q, fun j h1 => (k.cells j h1).trans (h.cells j h1), fun j => (k.marks j).trans (h.marks j)⟩
theorem RAt.drewN {w : World} {B o a : Nat} {s : ByteArray} (h : RAt w B o s a) (m : Nat) : RAt (w.drewN m) B o s a := ⟨h.c0, h.c1, h.f1, h.size, h.le⟩
theorem RStep.drewN {w w' : World} {B o : Nat} (h : RStep w w' B o) (m : Nat) : RStep w (w'.drewN m) B o := ⟨h.keeps.drewN m, h.cells, h.marks⟩
theorem RAt.put {w : World} {B o a : Nat} {s : ByteArray} (h : RAt w B o s a) (a' : Nat) (h' : a' ≤ 8 * s.size + 8) :
    RAt (w.setCell ⟨B, o + 1, none⟩ (.int .i64 (a' : Int))) B o s a' ∧ RStep w (w.setCell ⟨B, o + 1, none⟩ (.int .i64 (a' : Int))) B o := by
  have a3 : (⟨B, o + 1, none⟩ : Addr) ≠ ⟨B, o, none⟩ := by intro e; injection e with _ e2; omega
  refine ⟨⟨(World.cell?_setCell_other _ _ _ _ a3).trans h.c0, World.cell?_setCell_same _ _ _ h.c1, ?_, h.size, h'⟩, ⟨(Keeps.refl (fun k => k = B) w).setCell (.inl rfl) _, ?_, ?_⟩⟩
  · rw [World.frozen?_setCell]; exact h.f1
  · intro j h2
    exact World.cell?_setCell_other _ _ _ _ (by intro e; injection e with _ e2; exact h2 e2.symm)
  · intro j; rw [World.frozen?_setCell]
theorem left_calls (B o a : Nat) (s : ByteArray) (w : World) (hR : RAt w B o s a) :
    Calls Tryd.prog 127 #[.pointer (some ⟨B, o, none⟩)] w fun e w' => e = .returned (.int .i64 (8 * (s.size : Int) - a)) ∧ ∃ m, w' = w.drewN m := by
  obtain ⟨c0, c1, f1, hs, hle⟩ := hR
  go_enter Tryd.func127, Tryd.ntmps127
  go_wp2
  go_quiet (fail)
  go_wp2
  go_ret
  exact ⟨rfl, _, rfl⟩
theorem at_calls (B o a : Nat) (s : ByteArray) (w : World) (hR : RAt w B o s a) :
    Calls Tryd.prog 39 #[.pointer (some ⟨B, o, none⟩)] w fun e w' => e = .returned (.int .i64 (a : Int)) ∧ w = w' := by
  obtain ⟨c0, c1, f1, hs, hle⟩ := hR
  go_enter Tryd.func39, Tryd.ntmps39
  go_wp2
  go_ret
  exact ⟨rfl, rfl⟩
theorem newReader_calls (s : ByteArray) (w : World) (hs : s.size ≤ 1099511627776) :
    Calls Tryd.prog 36 #[.string s] w fun e w' => e = .returned (.pointer (some ⟨w.heap.size, 0, none⟩)) ∧ RAt w' w.heap.size 0 s 0 ∧ Ext w w' := by
  go_enter Tryd.func36, Tryd.ntmps36
  go_wp2
  go_ret
  refine ⟨rfl, ⟨?_, ?_, ?_, hs, by omega⟩, ?_⟩
  · rw [World.cell?_alloc_at _ _ _ _ rfl]; rfl
  · rw [World.cell?_alloc_at _ _ _ _ rfl]; rfl
  · rw [World.frozen?_alloc_at _ _ _ _ rfl]
  · exact ((Below.refl _ _).alloc (Nat.le_refl _) _)
theorem byte_bit (l : List UInt8) (p : Nat) (hj : p / 8 < l.length) : l[p / 8].toNat / 2 ^ (p % 8) % 2 = Crc.num l / 2 ^ p % 2 := by
  rw [num_byte l (p / 8) hj, show (256 : Nat) ^ (p / 8) = 2 ^ (8 * (p / 8)) by rw [Nat.pow_mul], show (256 : Nat) = 2 ^ 8 from rfl]
  have h : ∀ x : Nat, x % 2 ^ 8 / 2 ^ (p % 8) % 2 = x / 2 ^ (p % 8) % 2 := by
    intro x
    have h1 : (x % 2 ^ 8).testBit (p % 8) = x.testBit (p % 8) := by rw [Nat.testBit_mod_two_pow]; have : p % 8 < 8 := by omega
                                                                    simp [this]
    rw [Nat.testBit_eq_decide_div_mod_eq, Nat.testBit_eq_decide_div_mod_eq, decide_eq_decide] at h1
    omega
  rw [h, Nat.div_div_eq_div_mul, ← Nat.pow_add, show 8 * (p / 8) + p % 8 = p by omega]
theorem get_next (N a i y t : Nat) (hi : i < 32) (hy : y < 256) (hb : y / 2 ^ t % 2 = N / 2 ^ (a + i) % 2) :
    bits BinOp.or IntKind.u32 ((N : Int) / 2 ^ a % 2 ^ i) (bits BinOp.and IntKind.u8 ((y : Int) / 2 ^ t) 1 % 4294967296 * 2 ^ i % 4294967296) = ((N / 2 ^ a % 2 ^ (i + 1) : Nat) : Int) := by
  have hp : 2 ^ i ≤ 2 ^ 31 := Nat.pow_le_pow_right (by decide) (by omega)
  have e1 : bits BinOp.and IntKind.u8 ((y : Int) / 2 ^ t) 1 = ((y / 2 ^ t % 2 : Nat) : Int) := by
    have : y / 2 ^ t < 256 := Nat.lt_of_le_of_lt (Nat.div_le_self _ _) hy
    rw [show (y : Int) / 2 ^ t = ((y / 2 ^ t : Nat) : Int) by simp, show (1 : Int) = ((1 : Nat) : Int) from rfl, u8_and_nat _ _ this (by decide), Nat.and_one_is_mod]
  rw [e1, hb]
  have e2 : ((N / 2 ^ (a + i) % 2 : Nat) : Int) % 4294967296 * 2 ^ i % 4294967296 = ((N / 2 ^ a / 2 ^ i % 2 * 2 ^ i : Nat) : Int) := by
    rw [Nat.div_div_eq_div_mul, ← Nat.pow_add]
    have hb2 : N / 2 ^ (a + i) % 2 < 2 := Nat.mod_lt _ (by decide)
    generalize N / 2 ^ (a + i) % 2 = b at *
    rw [show (2 : Int) ^ i = ((2 ^ i : Nat) : Int) by simp]
    generalize 2 ^ i = q at *
    rcases (show b = 0 ∨ b = 1 by omega) with h | h <;> subst h <;> omega
  have hm : N / 2 ^ a % 2 ^ i < 2 ^ i := Nat.mod_lt _ (Nat.two_pow_pos i)
  rw [e2, show (N : Int) / 2 ^ a % 2 ^ i = ((N / 2 ^ a % 2 ^ i : Nat) : Int) by simp, mod_next]
  generalize N / 2 ^ a = A at *
  have hb2 : A / 2 ^ i % 2 < 2 := Nat.mod_lt _ (by decide)
  have hB : A / 2 ^ i % 2 * 2 ^ i ≤ 2 ^ i := by
    generalize A / 2 ^ i % 2 = b at *
    rcases (show b = 0 ∨ b = 1 by omega) with h | h <;> subst h <;> omega
  rw [u32_or_nat _ _ (by omega) (by omega)]
  have h := Nat.two_pow_add_eq_or_of_lt (i := i) (b := A % 2 ^ i) hm (A / 2 ^ i % 2)
  rw [Nat.mul_comm] at h
  rw [Nat.or_comm, ← h, Nat.add_comm]
theorem get_in (B o a k : Nat) (s : ByteArray) (w : World) (hR : RAt w B o s a) (hk : k ≤ 32) (ha : a + k ≤ 8 * s.size) :
    Calls Tryd.prog 105 #[.pointer (some ⟨B, o, none⟩), .int .i64 (k : Int)] w fun e w' => e = .returned (.tuple #[.int .u32 ((Crc.num s.data.toList / 2 ^ a % 2 ^ k : Nat) : Int), .nilIface]) ∧ RAt w' B o s (a + k) ∧ RStep w w' B o := by
  have hle := hR.le
  have hs := hR.size
  have HR := Lib.hid hR
  clear hR
  go_enter Tryd.func105, Tryd.ntmps105
  go_wp2_with fail
  refine (left_calls B o a s _ HR.out).mono ?_
  rintro e w1 ⟨rfl, m, rfl⟩
  go_wp2_with fail
  go_loopw [6, 7, 21] (fun x _ c wr => ∃ (i : Nat), i ≤ k ∧ x = .int .u32 ((Crc.num s.data.toList / 2 ^ a % 2 ^ i : Nat) : Int) ∧ c = .int .i64 i ∧ Hid (RAt wr B o s (a + i)) ∧ Hid (RStep w wr B o)) (fun _ _ c _ => k - (intOf c).toNat)
  case atStart =>
    refine ⟨0, by omega, by simp [Nat.mod_one], rfl, ?_, ?_⟩
    · exact Lib.hid (HR.out.drewN m)
    · exact Lib.hid ((RStep.refl _ _ _).drewN m)
  case round =>
    obtain ⟨i, hi, rfl, rfl, HA, HS⟩ := hrel
    by_cases hlt : i < k
    · obtain ⟨c0, c1, f1, _, _⟩ := HA.out
      have hj : (a + i) / 8 < s.size := by omega
      have hj1 : (0 : Int) ≤ ((a : Int) + i) / 8 := by omega
      have hj2 : ((a : Int) + i) / 8 < (s.size : Int) := by omega
      go_wp2_with fail
      go_region
      go_wp2
      go_roundw
      case rel =>
        have hb := byte_bit s.data.toList (a + i) (by simpa using hj)
        refine ⟨i + 1, by omega, val_int ?_, by go_num, ?_, ?_⟩
        · exact get_next (Crc.num s.data.toList) a i _ _ (by omega) (UInt8.toNat_lt _) (by simp at hb; exact hb)
        · have q := (HA.out.put (a + i + 1) (by omega)).1.drewN 1
          rw [show ((a + i + 1 : Nat) : Int) = (a : Int) + i + 1 by omega] at q
          exact q
        · have q := (HA.out.put (a + i + 1) (by omega)).2
          rw [show ((a + i + 1 : Nat) : Int) = (a : Int) + i + 1 by omega] at q
          exact (HS.out.trans q).drewN 1
      case measure => simp [intOf]; omega
    · obtain rfl : i = k := by omega
      go_wp2_with fail
      exact bodyPost_ret (v := .tuple #[.int .u32 ((Crc.num s.data.toList / 2 ^ a % 2 ^ i : Nat) : Int), .nilIface]) (by simp [results, Tryd.results105, go_sem, *]) rfl ⟨rfl, HA.out, HS.out⟩
end Go.Proofs.YtnhbjgmfbcedaaaDoor
namespace Go.Proofs.YtnhbjgmfbcedaaaDoor
open Go.RowKit
set_option linter.unusedSimpArgs false
set_option maxRecDepth 100000
theorem get_bound (B o a : Nat) (width : Int) (s : ByteArray) (w : World) (E : Nat → Addr) (hE : Errs w E) (_hR : RAt w B o s a) (h1 : -9223372036854775808 ≤ width) (h2 : width ≤ 9223372036854775807) (h : width < 0 ∨ 32 < width) :
    Calls Tryd.prog 105 #[.pointer (some ⟨B, o, none⟩), .int .i64 width] w fun e w' => e = .returned (.tuple #[.int .u32 0, sentV (E 1)]) ∧ Ext w w' := by
  have c1 := hE.var 1 (by decide)
  simp only [gk, sentV] at c1
  clear hE
  rcases h with h0 | h0
  · go_enter Tryd.func105, Tryd.ntmps105
    go_wp2
    go_quiet (fail)
    go_wp2
    go_ret2
    exact ⟨rfl, by repeat (first | exact Ext.refl _ | refine Ext.drewN ?_ _)⟩
  · go_enter Tryd.func105, Tryd.ntmps105
    go_wp2
    go_quiet (fail)
    go_wp2
    go_ret2
    exact ⟨rfl, by repeat (first | exact Ext.refl _ | refine Ext.drewN ?_ _)⟩
structure Er2 (w : World) (E : Nat → Addr) : Prop where
  c0 : w.cell? ⟨1, 0, none⟩ = some (.iface 210 (.pointer (some (E 0))))
  c1 : w.cell? ⟨0, 0, none⟩ = some (.iface 210 (.pointer (some (E 1))))
theorem Er2.ext {w w' : World} {E : Nat → Addr} (h : Er2 w E) (hE : Ext w w') : Er2 w' E :=
  ⟨(hE.cell (p := ⟨1, 0, none⟩) (World.block_lt_of_cell? w _ h.c0)).trans h.c0, (hE.cell (p := ⟨0, 0, none⟩) (World.block_lt_of_cell? w _ h.c1)).trans h.c1⟩
theorem Errs.er2 {w : World} {E : Nat → Addr} (h : Errs w E) : Er2 w E := ⟨h.var 0 (by decide), h.var 1 (by decide)⟩
theorem get_text2 (B o a k : Nat) (s : ByteArray) (w : World) (E : Nat → Addr) (hE : Er2 w E) (hR : RAt w B o s a) (hk : k ≤ 32) (ha : 8 * s.size < a + k) (_ha2 : a ≤ 8 * s.size) :
    Calls Tryd.prog 105 #[.pointer (some ⟨B, o, none⟩), .int .i64 (k : Int)] w fun e w' => e = .returned (.tuple #[.int .u32 0, sentV (E 0)]) ∧ Ext w w' := by
  have c1 := hE.c0
  clear hE
  go_enter Tryd.func105, Tryd.ntmps105
  go_wp2_with fail
  refine (left_calls B o a s _ hR).mono ?_
  rintro e w2 ⟨rfl, m, rfl⟩
  go_wp2_with fail
  go_quiet (fail)
  go_wp2
  unfold sentV
  go_ret2
  exact ⟨rfl, by repeat (first | exact Ext.refl _ | refine Ext.drewN ?_ _)⟩
theorem get_text (B o a k : Nat) (s : ByteArray) (w : World) (E : Nat → Addr) (hE : Errs w E) (hR : RAt w B o s a) (hk : k ≤ 32) (ha : 8 * s.size < a + k) (ha2 : a ≤ 8 * s.size) :
    Calls Tryd.prog 105 #[.pointer (some ⟨B, o, none⟩), .int .i64 (k : Int)] w fun e w' => e = .returned (.tuple #[.int .u32 0, sentV (E 0)]) ∧ Ext w w' :=
  get_text2 B o a k s w E hE.er2 hR hk ha ha2
end Go.Proofs.YtnhbjgmfbcedaaaDoor
namespace Go.Proofs.YtnhbjgmfbcedaaaDoor
open Go.RowKit
set_option linter.unusedSimpArgs false
set_option maxRecDepth 100000
theorem WAt.fresh (w : World) (t : TypeId) : WAt (w.alloc (.cells #[.slice none 0 0, .int .i64 0] t)) w.heap.size 0 (.slice none 0 0) 0 0 := by
  refine ⟨?_, ?_, ?_, ?_, ⟨[], rfl, rfl, World.ownsRow_nil _ _ _ _⟩, ?_, by decide⟩
  · rw [World.cell?_alloc_at _ _ _ _ rfl]; rfl
  · rw [World.cell?_alloc_at _ _ _ _ rfl]; rfl
  · rw [World.frozen?_alloc_at _ _ _ _ rfl]
  · rw [World.frozen?_alloc_at _ _ _ _ rfl]
  · intro e; cases e
/-- what a writer did touched only new blocks, if it and its row are new -/
theorem WStep.below {w w' : World} {B o H : Nat} {v v' : Value} (h : WStep w w' B o v v') (hB : H ≤ B) (hv : ∀ k, v.ownBlock = some k → H ≤ k) (hH : H ≤ w.heap.size) : Below H w w' :=
  h.keeps.below hH fun k hk q => by
    rcases q with q | q
    · omega
    · have := hv k q; omega
theorem WStep.own {w w' : World} {B o H : Nat} {v v' : Value} (h : WStep w w' B o v v') (hv : ∀ k, v.ownBlock = some k → H ≤ k) (hH : H ≤ w.heap.size) : ∀ k, v'.ownBlock = some k → H ≤ k := by
  intro k hk
  rcases h.new k hk with q | q
  · exact hv k q
  · omega
theorem RStep.below {w w' : World} {B o H : Nat} (h : RStep w w' B o) (hB : H ≤ B) (hH : H ≤ w.heap.size) : Below H w w' :=
  h.keeps.below hH fun k hk q => by subst q; omega
end Go.Proofs.YtnhbjgmfbcedaaaDoor
namespace Go.Proofs.YtnhbjgmfbcedaaaDoor
open Go.RowKit
set_option linter.unusedSimpArgs false
set_option maxRecDepth 100000
theorem TAt.kept {S : Nat → Prop} {w w' : World} {T : Nat} {v : Value} {f : Nat → Int} {len : Nat} {l : List Nat} (h : TAt w T v f len l) (hk : Keeps S w w') (hT : ¬ S T) (hv : ∀ k, v.ownBlock = some k → ¬ S k) : TAt w' T v f len l := by
  have hlt : T < w.heap.size := World.block_lt_of_cell? w _ h.cell
  exact ⟨fun j hj => (hk.cell (p := ⟨T, j, none⟩) hlt hT).trans (h.many j hj), (hk.cell (p := ⟨T, 16, none⟩) hlt hT).trans h.cell, (hk.frozen (p := ⟨T, 16, none⟩) hlt hT).trans h.free, ownsRow_kept h.row hk hv, h.apart⟩
theorem or_bit (c b : Nat) (hc : c < 1048576) (hb : b < 2) : bits BinOp.or IntKind.i64 ((2 * c : Nat) : Int) (b : Int) = ((2 * c + b : Nat) : Int) := by
  have e : (2 * c) ||| b = 2 * c + b := by
    have := Nat.two_pow_add_eq_or_of_lt (i := 1) (b := b) (by omega) c
    simpa using this.symm
  show IntKind.i64.wrap ((BitVec.ofInt 64 ((2 * c : Nat) : Int) ||| BitVec.ofInt 64 (b : Int)).toNat : Int) = _
  rw [BitVec.ofInt_natCast, BitVec.ofInt_natCast, BitVec.toNat_or, BitVec.toNat_ofNat, BitVec.toNat_ofNat, Nat.mod_eq_of_lt (by omega), Nat.mod_eq_of_lt (by omega), e, IntKind.wrap_i64]
  omega
theorem RAt.lt {w : World} {B o a : Nat} {s : ByteArray} (h : RAt w B o s a) : B < w.heap.size := World.block_lt_of_cell? w _ h.c0
theorem RAt.ext {w w' : World} {B o a : Nat} {s : ByteArray} (h : RAt w B o s a) (hE : Ext w w') : RAt w' B o s a :=
  ⟨(hE.cell (p := ⟨B, o, none⟩) h.lt).trans h.c0, (hE.cell (p := ⟨B, o + 1, none⟩) h.lt).trans h.c1, (hE.frozen (p := ⟨B, o + 1, none⟩) h.lt).trans h.f1, h.size, h.le⟩
theorem RStep.of_ext {w w' : World} {B : Nat} (o : Nat) (hE : Ext w w') (hB : B < w.heap.size) : RStep w w' B o :=
  ⟨hE.keeps, fun j _ => hE.cell (p := ⟨B, j, none⟩) hB, fun j => hE.frozen (p := ⟨B, j, none⟩) hB⟩
theorem RStep.after {w0 w w' : World} {B o : Nat} (h : RStep w w' B o) (hX : Ext w0 w) (hB : w0.heap.size ≤ B) : Ext w0 w' := Below.trans hX (h.below hB hX.size)
def NextIs (w' : World) (e : Ending) (B o : Nat) (s : ByteArray) (a : Nat) (f : Nat → Int) (len : Nat) (E : Nat → Addr) : Prop :=
  (∃ n k, 1 ≤ n ∧ n ≤ 15 ∧ a + n ≤ 8 * s.size ∧ NoHit f len (Crc.num s.data.toList) a (n - 1) ∧ k < len ∧ f k = (n : Int) ∧ word f len k = codeAt (Crc.num s.data.toList) a n ∧ e = .returned (.tuple #[.int .i64 (k : Int), .nilIface]) ∧ RAt w' B o s (a + n)) ∨
  ((∀ m, m ≤ 15 → a + m ≤ 8 * s.size → NoHit f len (Crc.num s.data.toList) a m) ∧ e = .returned (.tuple #[.int .i64 0, sentV (E 0)]) ∧ ∃ a', a' ≤ 8 * s.size ∧ RAt w' B o s a')
theorem next_none (T B o a : Nat) (x : Option Addr) (cap : Nat) (f : Nat → Int) (len : Nat) (s : ByteArray) (w0 w : World) (E : Nat → Addr) (hE : Errs w0 E) (hX : Ext w0 w) (hU : upTo f len 15 = 0) (hT : w.cell? ⟨T, 16, none⟩ = some (.slice x 0 cap)) (hR : RAt w B o s a) (ha : a ≤ 8 * s.size) :
    Calls Tryd.prog 110 #[.pointer (some ⟨T, 0, none⟩), .pointer (some ⟨B, o, none⟩)] w fun e w' => NextIs w' e B o s a f len E ∧ RStep w w' B o := by
  have hv := (hE.ext hX).var 0 (by decide)
  simp only [gk, sentV] at hv
  have HR := Lib.hid hR
  have HU := Lib.hid hU
  clear hE hX hR hU
  go_enter Tryd.func110, Tryd.ntmps110
  go_wp2_with fail
  refine wp_loop_rounds 1 ?_
  rw [rounds_succ]
  go_wp2_with fail
  go_region
  all_goals go_wp2_with fail
  all_goals go_ret2
  all_goals exact ⟨.inr ⟨fun m hm _ => by
    intro j h1 h2
    exact NoHit.all (NoHit.zero f len (Crc.num s.data.toList) a) (by rw [HU.out]; exact Nat.zero_le _) (by omega) j h1 (by omega), rfl, a, ha, HR.out.drewN 1⟩, (RStep.refl _ _ _).drewN 1⟩
theorem next_some (T B o a g cap : Nat) (f : Nat → Int) (len : Nat) (s : ByteArray) (w0 w : World) (E : Nat → Addr) (hE : Errs w0 E) (hX : Ext w0 w) (hB : w0.heap.size ≤ B) (hl : len ≤ 300) (hT : TAt w T (.slice (some ⟨g, 0, none⟩) (upTo f len 15) cap) f len (symA f len 15)) (hR : RAt w B o s a) (ha : a ≤ 8 * s.size) (hTB : T ≠ B) (hvB : g ≠ B) :
    Calls Tryd.prog 110 #[.pointer (some ⟨T, 0, none⟩), .pointer (some ⟨B, o, none⟩)] w fun e w' => NextIs w' e B o s a f len E ∧ RStep w w' B o := by
  have hsz := hR.size
  have HE := Lib.hid hE
  have HX := Lib.hid hX
  have HT := Lib.hid hT
  have HR := Lib.hid hR
  have HTB := Lib.hid hTB
  have HVB := Lib.hid hvB
  have HLL := Lib.hid (symA_length f len 15)
  have HS0 := Lib.hid (hit_sym f len)
  clear hE hX hT hR hTB hvB
  go_enter Tryd.func110, Tryd.ntmps110
  go_wp2_with fail
  go_loopw [6, 7, 8, 9] (fun c fi at_ n wr => ∃ m : Nat, m ≤ 15 ∧ c = .int .i64 ((2 * codeAt (Crc.num s.data.toList) a m : Nat) : Int) ∧ fi = .int .i64 (first f len (m + 1) : Int) ∧ at_ = .int .i64 (upTo f len m : Int) ∧ n = .int .i64 ((m : Int) + 1) ∧ Hid (NoHit f len (Crc.num s.data.toList) a m) ∧ a + m ≤ 8 * s.size ∧ Hid (RAt wr B o s (a + m)) ∧ Hid (RStep w wr B o)) (fun _ _ _ n _ => 16 - (intOf n).toNat)
  case atStart => exact ⟨0, by omega, rfl, rfl, rfl, rfl, Lib.hid (NoHit.zero _ _ _ _), by omega, HR, Lib.hid (RStep.refl _ _ _)⟩
  case round =>
    obtain ⟨m, hm, rfl, rfl, rfl, rfl, HN, ham, HA, HS⟩ := hrel
    have hTw := HT.out.kept (S := fun k => k = B) HS.out.keeps HTB.out (fun k hk e => HVB.out (by cases hk; exact e))
    have hcl : codeAt (Crc.num s.data.toList) a m < 32768 := Nat.lt_of_lt_of_le (codeAt_lt _ _ m) (Nat.pow_le_pow_right (n := 2) (by decide) hm)
    have hu1 : upTo f len m ≤ 4500 := Nat.le_trans (upTo_bd f len m) (Nat.mul_le_mul hm hl)
    have hu2 : upTo f len 15 ≤ 4500 := Nat.le_trans (upTo_bd f len 15) (Nat.mul_le_mul (Nat.le_refl _) hl)
    have hfi := HN.out.next
    have c16 := hTw.cell
    have HTW := Lib.hid hTw
    clear hTw
    obtain ⟨C, hC⟩ : ∃ C, 2 * codeAt (Crc.num s.data.toList) a m = C := ⟨_, rfl⟩
    obtain ⟨F, hF⟩ : ∃ F, first f len (m + 1) = F := ⟨_, rfl⟩
    obtain ⟨U, hU⟩ : ∃ U, upTo f len m = U := ⟨_, rfl⟩
    obtain ⟨V, hV⟩ : ∃ V, upTo f len 15 = V := ⟨_, rfl⟩
    have hC2 : C ≤ 65536 := by omega
    rw [hC, hF] at hfi
    rw [hU] at hu1
    rw [hV] at hu2 c16
    rw [hC, hF, hU]
    have HC := Lib.hid hC
    have HF := Lib.hid hF
    have HU := Lib.hid hU
    have HV := Lib.hid hV
    clear hC hF hU hV hcl
    by_cases hgo : m < 15 ∧ U < V
    · obtain ⟨hm15, hup⟩ := hgo
      have t1 : decide ((m : Int) + 1 ≤ 15) = true := decide_eq_true (by omega)
      have t2 : decide (U < V) = true := decide_eq_true hup
      by_cases hbit : a + m + 1 ≤ 8 * s.size
      · obtain ⟨b, hb⟩ : ∃ b, Crc.num s.data.toList / 2 ^ (a + m) % 2 = b := ⟨_, rfl⟩
        have hb2 : b < 2 := by rw [← hb]; exact Nat.mod_lt _ (by decide)
        have HBI := Lib.hid hb
        clear hb
        go_wp2_with fail
        refine (get_in B o (a + m) 1 s _ HA.out (by omega) hbit).mono ?_
        rintro e w2 ⟨rfl, hA2, hS2⟩
        rw [show (2 : Nat) ^ 1 = 2 from rfl, HBI.out]
        have HA2 := Lib.hid hA2
        have HS2 := Lib.hid (HS.out.trans hS2)
        have hTw2 := HT.out.kept (S := fun k => k = B) (HS2.out).keeps HTB.out (fun k hk e => HVB.out (by cases hk; exact e))
        have hcn := hTw2.many (m + 1) (by omega)
        have c16' := hTw2.cell
        rw [HV.out] at c16'
        have HTW2 := Lib.hid hTw2
        obtain ⟨K, hK⟩ : ∃ K, many f (m + 1) len = K := ⟨_, rfl⟩
        have hKl : K ≤ 300 := by rw [← hK]; exact Nat.le_trans (many_le f (m + 1) len) hl
        rw [hK] at hcn
        obtain ⟨D, hD⟩ : ∃ D, C + b = D := ⟨_, rfl⟩
        have hor : bits BinOp.or IntKind.i64 (C : Int) (b : Int) = (D : Int) := by
          have := or_bit (codeAt (Crc.num s.data.toList) a m) b (Nat.lt_of_lt_of_le (codeAt_lt _ _ m) (Nat.pow_le_pow_right (n := 2) (by decide) (by omega : m ≤ 20))) hb2
          rw [HC.out] at this; rw [this, hD]
        have HOR := Lib.hid hor
        have hD1 : C ≤ D := by omega
        have hD2 : D ≤ C + 1 := by omega
        have HD := Lib.hid hD
        have HK := Lib.hid hK
        clear hA2 hS2 hTw2 c16 hD hK
        by_cases hhit : D < F + K
        · have t3 : decide ((D : Int) - F < K) = true := decide_eq_true (by omega)
          have hcode : codeAt (Crc.num s.data.toList) a (m + 1) = D := by
            rw [← HD.out, ← HC.out, ← HBI.out]; rfl
          obtain ⟨k, hk1, hk2, hk3, hk4⟩ := HS0.out D (m + 1) (by omega) (by omega) (by rw [HF.out]; omega) (by rw [HF.out, HK.out]; exact hhit)
          rw [Nat.add_sub_cancel, HU.out, HF.out] at hk1
          have hidx : U + D - F < V := by
            rw [← HV.out, ← HLL.out]
            rcases Nat.lt_or_ge (U + (D - F)) (symA f len 15).length with q | q
            · omega
            · rw [List.getElem?_eq_none q] at hk1; cases hk1
          have hrow := HTW2.out.row
          rw [HLL.out, HV.out] at hrow
          have hcell : w2.cell? ⟨g, U + D - F, none⟩ = some (.int .i64 (k : Int)) := by
            have q := hrow.cellAt (U + D - F) (by omega)
            rw [q]; unfold symV; rw [List.getElem?_map, show U + D - F = U + (D - F) by omega, hk1]; rfl
          have HK2 := Lib.hid hk2
          have HK3 := Lib.hid hk3
          have HK4 := Lib.hid hk4
          have HCD := Lib.hid hcode
          have hi1 : (0 : Int) ≤ (U : Int) + D - F := by omega
          have hi2 : (U : Int) + D - F < (V : Int) := by omega
          clear hrow hk1 hk2 hk3 hk4 hcode t3 hcn hor
          have t3 : decide ((D : Int) - F < K) = true := decide_eq_true (by omega)
          have hcn := HTW2.out.many (m + 1) (by omega)
          rw [HK.out] at hcn
          have hor : bits BinOp.or IntKind.i64 (C : Int) (b : Int) = (D : Int) := HOR.out
          go_wp2_with fail
          go_ret2
          refine ⟨.inl ⟨m + 1, k, by omega, by omega, by omega, ?_, HK2.out, HK3.out, ?_, rfl, HA2.out⟩, HS2.out⟩
          · rw [Nat.add_sub_cancel]; exact HN.out
          · rw [HCD.out]; exact HK4.out
        · have t3 : decide ((D : Int) - F < K) = false := decide_eq_false (by omega)
          go_wp2_with fail
          go_roundw
          case rel =>
            have hcode : codeAt (Crc.num s.data.toList) a (m + 1) = D := by
              rw [← HD.out, ← HC.out, ← HBI.out]; rfl
            refine ⟨m + 1, by omega, ?_, ?_, ?_, by go_num, Lib.hid (HN.out.succ ?_), by omega, HA2, HS2⟩
            · rw [hcode]; exact val_int (by omega)
            · rw [first_succ f len (m + 1) (by omega), HF.out, HK.out]; exact val_int (by omega)
            · exact val_int (by rw [← HU.out, ← HK.out]; simp only [upTo]; omega)
            · rw [hcode, HF.out, HK.out]; omega
          case measure => simp [intOf]; omega
      · have hv := (HE.out.ext (HS.out.after HX.out hB)).var 0 (by decide)
        go_wp2_with fail
        refine (get_text B o (a + m) 1 s _ E (HE.out.ext (HS.out.after HX.out hB)) HA.out (by omega) (by omega) ham).mono ?_
        rintro e w2 ⟨rfl, h2⟩
        have HA2 := Lib.hid (HA.out.ext h2)
        have HS2 := Lib.hid (HS.out.trans (RStep.of_ext o h2 HA.out.lt))
        clear h2 hv c16
        unfold sentV
        go_wp2_with fail
        go_ret2
        refine ⟨.inr ⟨fun m' h1 h2 => ?_, rfl, a + m, ham, HA2.out⟩, HS2.out⟩
        have : m' ≤ m := by omega
        exact fun j q1 q2 => HN.out j q1 (by omega)
    · have hv := (HE.out.ext (HS.out.after HX.out hB)).var 0 (by decide)
      simp only [gk, sentV] at hv
      by_cases hm15 : m < 15
      · have t1 : decide ((m : Int) + 1 ≤ 15) = true := decide_eq_true (by omega)
        have t2 : decide (U < V) = false := decide_eq_false (by omega)
        have huv : V ≤ U := by omega
        go_wp2_with fail
        go_region
        all_goals go_wp2_with fail
        all_goals go_ret2
        all_goals exact ⟨.inr ⟨fun m' h1 h2 => fun j q1 q2 => NoHit.all HN.out (by rw [HV.out, HU.out]; exact huv) hm j q1 (by omega), rfl, a + m, ham, HA.out.drewN 1⟩, HS.out.drewN 1⟩
      · have t1 : decide ((m : Int) + 1 ≤ 15) = false := decide_eq_false (by omega)
        go_wp2_with fail
        go_region
        all_goals go_wp2_with fail
        all_goals go_ret2
        all_goals exact ⟨.inr ⟨fun m' h1 h2 => fun j q1 q2 => HN.out j q1 (by omega), rfl, a + m, ham, HA.out.drewN 1⟩, HS.out.drewN 1⟩
theorem next_any (T B o a : Nat) (v : Value) (f : Nat → Int) (len : Nat) (s : ByteArray) (w0 w : World) (E : Nat → Addr) (hE : Errs w0 E) (hX : Ext w0 w) (hB : w0.heap.size ≤ B) (hl : len ≤ 300) (hT : TAt w T v f len (symA f len 15)) (hR : RAt w B o s a) (ha : a ≤ 8 * s.size) (hTB : T ≠ B) (hvB : v.ownBlock ≠ some B) :
    Calls Tryd.prog 110 #[.pointer (some ⟨T, 0, none⟩), .pointer (some ⟨B, o, none⟩)] w fun e w' => NextIs w' e B o s a f len E ∧ RStep w w' B o := by
  have hrow := hT.row
  rcases ownsRow_slice hrow with ⟨rfl, h2⟩ | ⟨g, cap, rfl⟩
  · exact next_none T B o a none 0 f len s w0 w E hE hX (by rw [← symA_length]; exact h2) hT.cell hR ha
  · rw [symA_length] at hT hvB
    exact next_some T B o a g cap f len s w0 w E hE hX hB hl hT hR ha hTB (fun e => hvB (by rw [e]; rfl))
end Go.Proofs.YtnhbjgmfbcedaaaDoor
namespace Go.Proofs.YtnhbjgmfbcedaaaDoor
open Go.RowKit
set_option linter.unusedSimpArgs false
/-- how many bits symbols take, and what number they make -/
def posW (f : Nat → Int) : List Nat → Nat
  | [] => 0
  | k :: l => (f k).toNat + posW f l
def vsW (f : Nat → Int) (len : Nat) : List Nat → Nat
  | [] => 0
  | k :: l => Bts.val (Bts.high (word f len k) (f k).toNat) + 2 ^ (f k).toNat * vsW f len l
theorem posW_append (f : Nat → Int) (l m : List Nat) : posW f (l ++ m) = posW f l + posW f m := by
  induction l with
  | nil => simp [posW]
  | cons k l ih => simp only [List.cons_append, posW, ih]; omega
theorem vsW_append (f : Nat → Int) (len : Nat) (l m : List Nat) : vsW f len (l ++ m) = vsW f len l + 2 ^ posW f l * vsW f len m := by
  induction l with
  | nil => simp [posW, vsW]
  | cons k l ih => simp only [List.cons_append, posW, vsW, ih, Nat.mul_add, Nat.pow_add, Nat.mul_assoc]; omega
theorem vsW_lt (f : Nat → Int) (len : Nat) (l : List Nat) : vsW f len l < 2 ^ posW f l := by
  induction l with
  | nil => exact (by decide : 0 < 1)
  | cons k l ih =>
    simp only [posW, vsW, Nat.pow_add]
    have h := Bts.val_lt (Bts.high (word f len k) (f k).toNat)
    rw [Bts.high_length] at h
    have h2 : 2 ^ (f k).toNat * vsW f len l + 2 ^ (f k).toNat ≤ 2 ^ (f k).toNat * 2 ^ posW f l := by rw [← Nat.mul_succ]; exact Nat.mul_le_mul_left _ ih
    omega
theorem vsW_snoc (f : Nat → Int) (len : Nat) (l : List Nat) (k m : Nat) (hk : f k = m) : vsW f len (l ++ [k]) = vsW f len l + Bts.val (Bts.high (word f len k) m) * 2 ^ posW f l ∧ posW f (l ++ [k]) = posW f l + m := by
  rw [vsW_append, posW_append]
  simp only [vsW, posW, hk, Int.toNat_natCast]
  rw [Nat.mul_zero, Nat.add_zero, Nat.mul_comm]
  exact ⟨rfl, by omega⟩
theorem posW_le (f : Nat → Int) (l : List Nat) (h : ∀ k, k ∈ l → f k ≤ 15) : posW f l ≤ 15 * l.length := by
  induction l with
  | nil => exact Nat.le_refl _
  | cons k l ih =>
    have h1 := ih fun j hj => h j (List.mem_cons_of_mem _ hj)
    have h2 := h k (List.mem_cons_self)
    simp only [posW, List.length_cons]; omega
theorem word_lt2 (f : Nat → Int) (len k m : Nat) (hc : complete f len) (hk : k < len) (hf : f k = m) (h1 : 1 ≤ m) (h2 : m ≤ 15) : word f len k < first f len m + many f m len ∧ word f len k < 2 ^ m := by
  have hw : word f len k = first f len m + many f m k := by unfold word; rw [if_pos (by omega), hf]; rfl
  have := word_lt f len hc k m hk hf h1 h2
  omega
/-- what comes next where a symbol's word stands -/
theorem next_word {w' : World} {e : Ending} {B o a len k m : Nat} {s : ByteArray} {E : Nat → Addr} {f : Nat → Int} (h : NextIs w' e B o s a f len E) (hc : complete f len) (hk : k < len) (hf : f k = m) (h1 : 1 ≤ m) (h2 : m ≤ 15)
    (hs : a + m ≤ 8 * s.size) (hv : codeAt (Crc.num s.data.toList) a m = word f len k) : e = .returned (.tuple #[.int .i64 (k : Int), .nilIface]) ∧ RAt w' B o s (a + m) := by
  have hN := nohit_word hf h1 hv
  have hlt := (word_lt2 f len k m hc hk hf h1 h2).1
  rcases h with ⟨n, k', q1, q2, _, qN, q5, q6, q7, he, hR⟩ | ⟨hA, _, _⟩
  · have hlt' := (word_lt2 f len k' n hc q5 q6 q1 q2).1
    have hnm : n = m := by
      rcases Nat.lt_trichotomy n m with q | q | q
      · have := hN n q1 (by omega); omega
      · exact q
      · have := qN m h1 (by omega); omega
    subst hnm
    have hkk : k' = k := by
      rcases Nat.decEq k' k with q | q
      · have := apart f len k k' hk (fun e => q e.symm) (by omega) (by omega)
        rw [q6, hf, Int.sub_self, Int.toNat_zero, Nat.pow_zero, Nat.div_one, q7, hv] at this
        exact absurd rfl this
      · exact q
    subst hkk
    exact ⟨he, hR⟩
  · have := hA m h2 hs m h1 (Nat.le_refl _)
    omega
/-- the word that stands at a place of what was written -/
theorem code_there (f : Nat → Int) (len : Nat) (l r : List Nat) (k m : Nat) (hc : complete f len) (hk : k < len) (hf : f k = m) (h1 : 1 ≤ m) (h2 : m ≤ 15) : codeAt (vsW f len (l ++ k :: r)) (posW f l) m = word f len k := by
  have hw := (word_lt2 f len k m hc hk hf h1 h2).2
  rw [codeAt_high (word f len k) m, Nat.mod_eq_of_lt hw]
  rw [vsW_append, Nat.add_mul_div_left _ _ (Nat.two_pow_pos _), Nat.div_eq_of_lt (vsW_lt f len l), Nat.zero_add]
  simp only [vsW, hf, Int.toNat_natCast]
  rw [Nat.add_mul_mod_self_left]
  have h := Bts.val_lt (Bts.high (word f len k) m)
  rw [Bts.high_length] at h
  exact Nat.mod_eq_of_lt h
/-- which of numbers are symbols of a code -/
def toldL (f g : Nat → Int) (len : Nat) : Nat → List Nat
  | 0 => []
  | i + 1 => toldL f g len i ++ (if 0 ≤ g i ∧ g i < len ∧ f (g i).toNat ≠ 0 then [(g i).toNat] else [])
theorem toldL_no (f g : Nat → Int) (len i : Nat) (h : ¬ (0 ≤ g i ∧ g i < len ∧ f (g i).toNat ≠ 0)) : toldL f g len (i + 1) = toldL f g len i := by simp only [toldL]; rw [if_neg h, List.append_nil]
theorem toldL_yes (f g : Nat → Int) (len i k : Nat) (h : g i = k) (hk : k < len) (hf : f k ≠ 0) : toldL f g len (i + 1) = toldL f g len i ++ [k] := by
  simp only [toldL]; rw [if_pos ⟨by omega, by omega, by rw [h]; exact hf⟩, h]; rfl
theorem toldL_len (f g : Nat → Int) (len : Nat) : ∀ i, (toldL f g len i).length ≤ i := by
  intro i
  induction i with
  | zero => exact Nat.le_refl _
  | succ i ih => simp only [toldL, List.length_append]; split <;> simp <;> omega
theorem toldL_mem (f g : Nat → Int) (len : Nat) : ∀ i k, k ∈ toldL f g len i → k < len ∧ f k ≠ 0 := by
  intro i
  induction i with
  | zero => intro k h; cases h
  | succ i ih =>
    intro k h
    simp only [toldL, List.mem_append] at h
    rcases h with h | h
    · exact ih k h
    · split at h
      · rw [List.mem_singleton.1 h]; rename_i q; exact ⟨by omega, q.2.2⟩
      · cases h
theorem ownsRow_ne {w : World} {b b' e e' s s' n n' : Nat} {v v' : Value} {xs xs' : List Value} (h : w.ownsRow b e s v n xs) (h' : w.ownsRow b' e' s' v' n' xs') (hne : e ≠ e') : ∀ k, v.ownBlock = some k → v'.ownBlock ≠ some k := by
  intro k hk hk'
  rcases h.2 with ⟨rfl, _⟩ | ⟨g, cap, cur, rfl, _, hh, _⟩
  · cases hk
  · rcases h'.2 with ⟨rfl, _⟩ | ⟨g', cap', cur', rfl, _, hh', _⟩
    · cases hk'
    · have e1 : g = k := by simpa [Value.ownBlock] using hk
      have e2 : g' = k := by simpa [Value.ownBlock] using hk'
      subst e1; subst e2
      rw [hh] at hh'
      injection hh' with q; injection q with _ q2
      exact hne q2
theorem wat_kept {S : Nat → Prop} {w w' : World} {B o V n : Nat} {v : Value} (h : WAt w B o v V n) (hk : Keeps S w w') (hB : ¬ S B) (hv : ∀ k, v.ownBlock = some k → ¬ S k) : WAt w' B o v V n := by
  have hlt : B < w.heap.size := World.block_lt_of_cell? w _ h.c0
  obtain ⟨l, h1, h2, h3⟩ := h.row
  exact ⟨(hk.cell hlt hB).trans h.c0, (hk.cell hlt hB).trans h.c1, (hk.frozen hlt hB).trans h.f0, (hk.frozen hlt hB).trans h.f1, ⟨l, h1, h2, ownsRow_kept h3 hk hv⟩, h.apart, h.lt⟩
/-- a writer and a row of numbers beside it, both newer than H -/
structure WR (w0 w : World) (W0 : Nat) (u : Value) (V n : Nat) (t : Value) (l : List Nat) : Prop where
  ext : Ext w0 w
  wat : WAt w W0 0 u V n
  row : w.ownsRow 0 3 1 t l.length (symV l)
  wn : w0.heap.size ≤ W0
  un : ∀ k, u.ownBlock = some k → w0.heap.size ≤ k
  tn : ∀ k, t.ownBlock = some k → w0.heap.size ≤ k ∧ k ≠ W0
theorem WR.apart {w0 w : World} {W0 : Nat} {u : Value} {V n : Nat} {t : Value} {l : List Nat} (h : WR w0 w W0 u V n t l) : ∀ k, u.ownBlock = some k → t.ownBlock ≠ some k := by
  obtain ⟨b, _, _, hb⟩ := h.wat.row
  exact ownsRow_ne hb h.row (by decide)
theorem WR.written {w0 w w' : World} {W0 : Nat} {u u' : Value} {V n V' n' : Nat} {t : Value} {l : List Nat} (h : WR w0 w W0 u V n t l) (hA : WAt w' W0 0 u' V' n') (hS : WStep w w' W0 0 u u') : WR w0 w' W0 u' V' n' t l :=
  ⟨Below.trans h.ext (hS.below h.wn h.un h.ext.size), hA, ownsRow_kept h.row hS.keeps (fun k hk q => by
    rcases q with q | q
    · exact (h.tn k hk).2 q
    · exact h.apart k q hk), h.wn, hS.own h.un h.ext.size, h.tn⟩
theorem WR.drew {w0 w : World} {W0 : Nat} {u : Value} {V n : Nat} {t : Value} {l : List Nat} (h : WR w0 w W0 u V n t l) : WR w0 w.drew W0 u V n t l :=
  ⟨h.ext.drew, ⟨h.wat.c0, h.wat.c1, h.wat.f0, h.wat.f1, h.wat.row, h.wat.apart, h.wat.lt⟩, h.row, h.wn, h.un, h.tn⟩
theorem WR.pushed {w0 w w' : World} {W0 : Nat} {u : Value} {V n : Nat} {t t' : Value} {l : List Nat} {o : Obj} {k : Nat} (h : WR w0 w W0 u V n t l) (hgrow : (w.alloc o).grownBy w' t.ownBlock)
    (hown : w'.ownsRow 0 3 1 t' (l.length + 1) (symV l ++ [.int .i64 (k : Int)])) (hat : t'.ownBlock = t.ownBlock ∨ t'.ownBlock = some (w.heap.size + 1)) : WR w0 w' W0 u V n t' (l ++ [k]) := by
  have hk : Keeps (fun k => t.ownBlock = some k) w w' := Keeps.trans (Keeps.alloc (Keeps.refl (fun k => t.ownBlock = some k) w) o) (Keeps.grown hgrow) (fun _ _ q => q)
  have hW : W0 < w.heap.size := World.block_lt_of_cell? w _ h.wat.c0
  refine ⟨?_, wat_kept h.wat hk (fun q => (h.tn _ q).2 rfl) (fun k hk q => h.apart k hk q), ?_, h.wn, h.un, ?_⟩
  · exact Below.trans h.ext (hk.below h.ext.size (fun k hk q => by have := (h.tn k q).1; omega))
  · have e : symV (l ++ [k]) = symV l ++ [.int .i64 (k : Int)] := by simp [symV]
    rw [e, List.length_append]; exact hown
  · intro j hj
    rcases hat with q | q
    · rw [q] at hj; exact h.tn j hj
    · rw [q] at hj; injection hj with hj; have := h.ext.size; omega
theorem symV_ints (l : List Nat) : symV l = intsV l.length (fun i => ((l.getD i 0 : Nat) : Int)) := by
  apply List.ext_getElem?
  intro i
  rcases Nat.lt_or_ge i l.length with h | h
  · rw [intsV_get _ _ _ h]; simp [symV, h]
  · rw [List.getElem?_eq_none (by simpa [symV] using h), List.getElem?_eq_none (by simpa [intsV] using h)]
theorem told_ints {w : World} {b : Nat} {t : Value} {l : List Nat} (h : w.ownsRow b 3 1 t l.length (symV l)) (hl : ∀ k, k ∈ l → k ≤ 1000) : ∃ x c, t = .slice x l.length c ∧ Ints w x l.length (fun i => ((l.getD i 0 : Nat) : Int)) := by
  rw [symV_ints] at h
  exact Ints.of_own h (fun i hi => by
    have hm : l.getD i 0 ∈ l := by simp [List.getD, hi]
    have := hl _ hm; omega)
theorem take_split (l : List Nat) (j k : Nat) (h : l[j]? = some k) : l = l.take j ++ k :: l.drop (j + 1) ∧ l.take (j + 1) = l.take j ++ [k] := by
  have hj : j < l.length := by
    rcases Nat.lt_or_ge j l.length with q | q
    · exact q
    · rw [List.getElem?_eq_none q] at h; cases h
  rw [List.getElem?_eq_getElem hj] at h
  injection h with h
  refine ⟨?_, by rw [List.take_succ_eq_append_getElem hj, h]⟩
  rw [← h, List.getElem_cons_drop hj, List.take_append_drop]
end Go.Proofs.YtnhbjgmfbcedaaaDoor
namespace Go.Proofs.YtnhbjgmfbcedaaaDoor
open Go.RowKit
set_option linter.unusedSimpArgs false
structure Tk where
  b : UInt8
  l : Int
  d : Int
structure Tk.Ok (t : Tk) : Prop where
  l : -9223372036854775808 ≤ t.l ∧ t.l ≤ 9223372036854775807
  d : -9223372036854775808 ≤ t.d ∧ t.d ≤ 9223372036854775807
/-- a row of tokens, wherever it lies -/
def Toks (w : World) (x : Option Addr) (n : Nat) (tk : Nat → Tk) : Prop :=
  (x = none → n = 0) ∧ ∀ a, x = some a → ∀ i, i < n →
    w.cell? (a.add (i * 3)) = some (.int .u8 ((tk i).b.toNat : Int)) ∧ w.cell? ⟨(a.add (i * 3)).block, (a.add (i * 3)).off + 1, none⟩ = some (.int .i64 (tk i).l) ∧
    w.cell? ⟨(a.add (i * 3)).block, (a.add (i * 3)).off + 2, none⟩ = some (.int .i64 (tk i).d) ∧ (tk i).Ok
theorem add_block3 (a : Addr) (k : Nat) : (a.add k).block = a.block := by unfold Addr.add; split <;> rfl
theorem Toks.keeps {S : Nat → Prop} {w w' : World} {x : Option Addr} {n : Nat} {tk : Nat → Tk} (h : Toks w x n tk) (hk : Keeps S w w') (hS : ∀ a, x = some a → ¬ S a.block) : Toks w' x n tk := by
  refine ⟨h.1, fun a ha i hi => ?_⟩
  obtain ⟨c0, c1, c2, ok⟩ := h.2 a ha i hi
  have hs : ¬ S (a.add (i * 3)).block := by rw [add_block3]; exact hS a ha
  have hl : (a.add (i * 3)).block < w.heap.size := World.block_lt_of_cell? w _ c0
  exact ⟨(hk.cell hl hs).trans c0, (hk.cell (p := ⟨_, _, none⟩) hl hs).trans c1, (hk.cell (p := ⟨_, _, none⟩) hl hs).trans c2, ok⟩
theorem Toks.ext {w w' : World} {x : Option Addr} {n : Nat} {tk : Nat → Tk} (h : Toks w x n tk) (hE : Ext w w') : Toks w' x n tk := h.keeps (S := fun _ => False) hE.keeps (fun _ _ => id)
theorem Toks.isSome {w : World} {x : Option Addr} {n : Nat} {tk : Nat → Tk} (h : Toks w x n tk) {i : Nat} (hi : i < n) : ∃ a, x = some a := by
  cases x with
  | none => have := h.1 rfl; omega
  | some a => exact ⟨a, rfl⟩
/-- the text behind k bytes more, each one from d back -/
def copyL (out : List UInt8) (d : Nat) : Nat → List UInt8
  | 0 => out
  | k + 1 => copyL out d k ++ [(copyL out d k).getD ((copyL out d k).length - d) 0]
theorem copyL_length (out : List UInt8) (d : Nat) : ∀ k, (copyL out d k).length = out.length + k := by
  intro k
  induction k with
  | zero => rfl
  | succ k ih => simp only [copyL, List.length_append, ih]; simp; omega
/-- what tokens mean: a text, or an error's number and place -/
inductive XRes where
  | ok (out : List UInt8)
  | bad (c i : Nat)
def litP (t : Tk) : Prop := t.l = 0 ∧ t.d = 0
def badP (t : Tk) (n : Nat) : Prop := t.b ≠ 0 ∨ t.l < 3 ∨ 258 < t.l ∨ t.d < 1 ∨ 32768 < t.d ∨ (n : Int) < t.d
instance (t : Tk) : Decidable (litP t) := by unfold litP; infer_instance
instance (t : Tk) (n : Nat) : Decidable (badP t n) := by unfold badP; infer_instance
def stepX (t : Tk) (k : Nat) (out : List UInt8) : XRes :=
  if litP t then (if 300000 < out.length + 1 then .bad 1 k else .ok (out ++ [t.b]))
  else if badP t out.length then .bad 2 k
  else if 300000 < out.length + t.l.toNat then .bad 1 k else .ok (copyL out t.d.toNat t.l.toNat)
def expL (tk : Nat → Tk) : Nat → XRes
  | 0 => .ok []
  | k + 1 => match expL tk k with
    | .ok out => stepX (tk k) k out
    | .bad c i => .bad c i
theorem expL_succ {tk : Nat → Tk} {k : Nat} {out : List UInt8} (h : expL tk k = .ok out) : expL tk (k + 1) = stepX (tk k) k out := by
  simp only [expL, h]
theorem expL_more {tk : Nat → Tk} {k c i : Nat} (h : expL tk k = .bad c i) : ∀ d, expL tk (k + d) = .bad c i := by
  intro d
  induction d with
  | zero => exact h
  | succ d ih => show expL tk (k + d + 1) = _; simp only [expL, ih]
theorem expL_bad {tk : Nat → Tk} {n k c : Nat} {out : List UInt8} (h : expL tk k = .ok out) (hs : stepX (tk k) k out = .bad c k) (hk : k < n) : expL tk n = .bad c k := by
  have h1 : expL tk (k + 1) = .bad c k := (expL_succ h).trans hs
  have := expL_more h1 (n - (k + 1))
  rwa [show k + 1 + (n - (k + 1)) = n by omega] at this
theorem stepX_lit {t : Tk} {k : Nat} {out : List UInt8} (h : litP t) (hb : out.length + 1 ≤ 300000) : stepX t k out = .ok (out ++ [t.b]) := by
  unfold stepX; rw [if_pos h, if_neg (by omega)]
theorem stepX_lit_no {t : Tk} {k : Nat} {out : List UInt8} (h : litP t) (hb : 300000 < out.length + 1) : stepX t k out = .bad 1 k := by
  unfold stepX; rw [if_pos h, if_pos hb]
theorem stepX_bad {t : Tk} {k : Nat} {out : List UInt8} (h : ¬ litP t) (hb : badP t out.length) : stepX t k out = .bad 2 k := by
  unfold stepX; rw [if_neg h, if_pos hb]
theorem stepX_copy {t : Tk} {k l d : Nat} {out : List UInt8} (h : ¬ litP t) (h2 : ¬ badP t out.length) (hl : t.l = l) (hd : t.d = d) (hb : out.length + l ≤ 300000) : stepX t k out = .ok (copyL out d l) := by
  unfold stepX; rw [if_neg h, if_neg h2, hl, hd, Int.toNat_natCast, Int.toNat_natCast, if_neg (by omega)]
theorem stepX_copy_no {t : Tk} {k l : Nat} {out : List UInt8} (h : ¬ litP t) (h2 : ¬ badP t out.length) (hl : t.l = l) (hb : 300000 < out.length + l) : stepX t k out = .bad 1 k := by
  unfold stepX; rw [if_neg h, if_neg h2, hl, Int.toNat_natCast, if_pos hb]
theorem stepX_len {t : Tk} {k : Nat} {out o : List UInt8} (h : stepX t k out = .ok o) : o.length ≤ 300000 := by
  unfold stepX at h
  split at h
  · split at h
    · cases h
    · injection h with h; subst h; simp; omega
  · split at h
    · cases h
    · split at h
      · cases h
      · injection h with h; subst h; rw [copyL_length]; omega
theorem expL_len {tk : Nat → Tk} : ∀ {n : Nat} {out : List UInt8}, expL tk n = .ok out → out.length ≤ 300000 := by
  intro n
  induction n with
  | zero => intro out h; injection h with h; subst h; simp
  | succ n ih =>
    intro out h
    simp only [expL] at h
    split at h
    · exact stepX_len h
    · cases h
/-- a row of bytes that grew by one -/
theorem row_push {w0 wr w1 : World} {v v' : Value} {l : List UInt8} {b : UInt8} (hE : Ext w0 wr) (hR : wr.ownsRow w0.heap.size 5 1 v l.length (bytesV l)) (hg : wr.grownBy w1 v.ownBlock)
    (ho : w1.ownsRow w0.heap.size 5 1 v' (l.length + 1) (bytesV l ++ [.int .u8 (b.toNat : Int)])) : w1.ownsRow w0.heap.size 5 1 v' (l ++ [b]).length (bytesV (l ++ [b])) ∧ Ext w0 w1 := by
  refine ⟨?_, Below.trans hE ((Keeps.grown hg).below hE.size (fun k hk e => by have := (hR.lt k e).1; omega))⟩
  have e : bytesV (l ++ [b]) = bytesV l ++ [.int .u8 (b.toNat : Int)] := by simp [bytesV]
  rw [e, List.length_append]
  exact ho
theorem row_conv {w : World} {base : Nat} {v : Value} {l : List UInt8} (h : w.ownsRow base 5 1 v l.length (bytesV l)) : (convert 61 9 v).run Tryd.prog w = .ok (.string ⟨l.toArray⟩) w := by
  rcases ownsRow_slice h with ⟨rfl, h0⟩ | ⟨g, cap, rfl⟩
  · rw [run_convert_bytes_string w 61 9 5 none 0 0 Tryd.underlying61 Tryd.underlying5 Tryd.underlying9, List.eq_nil_of_length_eq_zero h0]; rfl
  · refine run_convert_bytes_back (P := Tryd.prog) w 61 9 5 ⟨g, 0, none⟩ cap l Tryd.underlying61 Tryd.underlying5 Tryd.underlying9 (fun j hj => ?_)
    rw [add_plain, h.cellAt j (by omega), bytesV_get _ j hj]
theorem byteinf : (Tryd.prog.info? 5).map (fun i => (i.zero, i.size, i.bytes)) = some (some (.int .u8 0), 1, 1) := by kernel_rfl
end Go.Proofs.YtnhbjgmfbcedaaaDoor
