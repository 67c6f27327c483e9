/-
  The document's packed bits.
  The document's lengths of a fixed block.
  Rows of cells through memory that grows. No function of the program is named.
  What the document's FixedOf holds while it goes.
-/
import Derived.Test.YtnhbjgmfbcedaaaDoorDeflateFixedG10
import Derived.Test.YtnhbjgmfbcedaaaDoorDeflateFixedG3
import Derived.Test.YtnhbjgmfbcedaaaDoorDeflateFixedG1
import Derived.StillTailTactics
import Derived.IntWalk
import Derived.Test.YtnhbjgmfbcedaaaDoorDeflateFixedG7
import Derived.Deep.DeepCutAuto
import Derived.Deep.CutBlock
import Derived.Test.YtnhbjgmfbcedaaaDoorDeflateFixedG5
import Derived.Test.YtnhbjgmfbcedaaaDoorDeflateFixedG4
namespace Go.Proofs.YtnhbjgmfbcedaaaDoor
open Go.RowKit
set_option linter.unusedSimpArgs false
set_option linter.unusedVariables false
set_option maxRecDepth 100000
theorem num_made (m : Nat) : ∀ V : Nat, Crc.num ((List.range m).map fun j => UInt8.ofNat (V / 256 ^ j % 256)) = V % 256 ^ m := by
  induction m with
  | zero => intro V; simp [Crc.num, Nat.mod_one]
  | succ m ih =>
    intro V
    rw [List.range_succ_eq_map, List.map_cons, List.map_map]
    have e : ((fun j => UInt8.ofNat (V / 256 ^ j % 256)) ∘ Nat.succ) = fun j => UInt8.ofNat (V / 256 / 256 ^ j % 256) := by
      funext j; simp only [Function.comp]; rw [Nat.succ_eq_add_one, Nat.pow_succ, Nat.mul_comm, ← Nat.div_div_eq_div_mul]
    rw [e]
    simp only [Crc.num]
    rw [ih (V / 256), Nat.pow_succ, Nat.mul_comm (256 ^ m), Nat.mod_mul]
    simp
/-- a row of bytes whose number is known, as a text -/
theorem text_of_cells (w : World) (B n cap V : Nat) (hC : Cs w B n .u8 (fun j => ((V / 256 ^ j % 256 : Nat) : Int))) :
    (convert 61 9 (.slice (some ⟨B, 0, none⟩) n cap)).run Tryd.prog w = .ok (.string ⟨((List.range n).map fun j => UInt8.ofNat (V / 256 ^ j % 256)).toArray⟩) w := by
  have h := run_convert_bytes_back (P := Tryd.prog) w 61 9 5 ⟨B, 0, none⟩ cap ((List.range n).map fun j => UInt8.ofNat (V / 256 ^ j % 256)) Tryd.underlying61 Tryd.underlying5 Tryd.underlying9 (fun j hj => by
    rw [add_plain, (hC j (by simpa using hj)).1]; simp)
  simpa using h
theorem packed_any (L : List Bool) (hL : L.length ≤ 1000000) (w : World) : Calls Tryd.prog 65 #[.string (bs L)] w fun e w' => (∃ l : List UInt8, l.length = (L.length + 7) / 8 ∧ Crc.num l = Bts.val L ∧ e = .returned (.string ⟨l.toArray⟩)) ∧ Ext w w' := by
  have hz := bs_size L
  have hs : (bs L).size ≤ 1000000 := by omega
  have HS : Hid ((bs L).data.toList = Bts.str L) := Lib.hid (bs_list L)
  have HZ := Lib.hid hz
  rw [← hz]
  clear hz hL
  generalize bs L = s at *
  have hmk : ∀ w, (Instr.makeSlice 61 (.int .i64 (((s.size : Int) + 7) / 8)) (.int .i64 (((s.size : Int) + 7) / 8))).run Tryd.prog w = .ok (.slice (some ⟨w.heap.size, 0, none⟩) ((s.size + 7) / 8) ((s.size + 7) / 8)) (w.alloc (.cells (cellsI .u8 ((s.size + 7) / 8) (fun _ => 0)) 5)) := by
    intro w
    have h := run_make_row' (P := Tryd.prog) 61 5 (.int .u8 0) 1 Tryd.underlying61 u8info rfl .i64 .i64 ((s.size + 7) / 8) (by omega) (by omega) w
    rw [made_eq, show (((s.size + 7) / 8 : Nat) : Int) = ((s.size : Int) + 7) / 8 by omega] at h
    exact h
  go_enter Tryd.func65, Tryd.ntmps65
  go_wp2_with fail
  obtain ⟨m, hm⟩ : ∃ m, (s.size + 7) / 8 = m := ⟨_, rfl⟩
  have hm1 : 8 * m ≤ s.size + 7 := by omega
  have hm2 : s.size ≤ 8 * m := by omega
  rw [hm]
  have HM := Lib.hid hm
  clear hm hmk
  go_loopw [4] (fun c wr => ∃ i : Nat, i ≤ s.size ∧ c = .int .i64 i ∧ Hid (Cs wr w.heap.size m .u8 (fun j => ((Bts.val (L.take i) / 256 ^ j % 256 : Nat) : Int))) ∧ Hid (Ext w wr)) (fun c _ => s.size - (intOf c).toNat)
  case atStart =>
    refine ⟨0, by omega, rfl, Lib.hid ?_, Lib.hid ((Ext.refl w).alloc _)⟩
    exact (Cs.born w .u8 m (fun _ => 0) _).congr (fun i hi => by simp [Bts.val])
  case round =>
    obtain ⟨i, hi, rfl, HC, HX⟩ := hrel
    by_cases hlt : i < s.size
    · have hL : i < L.length := by have := HZ.out; omega
      have hb : s[i].toNat = 48 + (if L[i] = true then 1 else 0) := by
        rw [← Bts.ch_toNat]
        congr 1
        have e : s[i] = s.data.toList[i]'(by simpa using hlt) := rfl
        rw [e]
        simp only [HS.out, Bts.str, List.getElem_map]
      have hts := Bts.take_succ L i hL
      have hv := Bts.take_lt L i (by omega)
      by_cases hbit : L[i] = true
      · rw [if_pos hbit] at hb hts
        have t1 : ((s[i].toNat : Int) == 49) = true := by rw [hb]; rfl
        obtain ⟨c0, z0⟩ := HC.out (i / 8) (by omega)
        have HTS := Lib.hid hts
        have HV := Lib.hid hv
        clear hts hb hbit
        go_wp2_with fail
        obtain ⟨k, hk⟩ : ∃ k, i / 8 = k := ⟨_, rfl⟩
        obtain ⟨r, hr⟩ : ∃ r, i % 8 = r := ⟨_, rfl⟩
        rw [hk] at c0 z0
        have hkm : k < m := by omega
        have hr8 : r < 8 := by omega
        have e1 : IntKind.i64.wrap ((i : Int) / 8) = (k : Int) := by rw [IntWalk.i64_in _ (by omega)]; omega
        have e7 : (i : Int).tmod 8 = (r : Int) := by rw [Int.tmod_eq_emod_of_nonneg (by omega)]; omega
        have HK := Lib.hid hk
        have HR := Lib.hid hr
        have HQ := Lib.hid (Bts.byte_small _ i hv)
        rw [hk, hr] at HQ
        clear hk hr hv
        go_still_tail 13, (by kernel_rfl)
        clear e1 e7
        change wpList _ _ _ _ _ wr.drew
        go_wp2_with fail
        go_roundw
        case rel => exact ⟨i + 1, by omega, by go_num, Lib.hid (Cs.put (Cs.drew HC.out) k _ _ (by omega) (fun j _ => by
            rw [HTS.out, Nat.one_mul, Bts.byte_add _ i j HV.out, HK.out, HR.out]
            by_cases hj : j = k
            · subst hj; rw [if_pos rfl, if_pos rfl]; have q := HQ.out; rw [show ((Bts.val (L.take i) : Int) / 256 ^ j) = ((Bts.val (L.take i) / 256 ^ j : Nat) : Int) by simp, show (2 : Int) ^ r = ((2 ^ r : Nat) : Int) by simp]; generalize Bts.val (L.take i) / 256 ^ j = y at *; generalize 2 ^ r = z at *; omega
            · rw [if_neg hj, if_neg hj])), Lib.hid (Below.setCell (Below.drew HX.out) (by simp) _)⟩
        case measure => simp [intOf]; omega
      · rw [if_neg hbit] at hb hts
        have t1 : ((s[i].toNat : Int) == 49) = false := by rw [hb]; rfl
        have HTS := Lib.hid hts
        clear hts hv hb hbit
        go_wp2_with fail
        go_roundw
        case rel => exact ⟨i + 1, by omega, by go_num, Lib.hid (HC.out.congr (fun j _ => by rw [HTS.out]; simp)), HX⟩
        case measure => simp [intOf]; omega
    · obtain rfl : i = s.size := by omega
      have hcr := text_of_cells wr w.heap.size m m (Bts.val (L.take s.size)) HC.out
      go_wp2_with fail
      go_ret
      refine ⟨⟨_, ?_, ?_, rfl⟩, HX.out⟩
      · rw [HM.out]; simp
      · have q := Bts.val_lt L
        rw [num_made, List.take_of_length_le (by rw [HZ.out]; exact Nat.le_refl _), Nat.mod_eq_of_lt]
        refine Nat.lt_of_lt_of_le q ?_
        rw [show (256 : Nat) = 2 ^ 8 from rfl, ← Nat.pow_mul]
        exact Nat.pow_le_pow_right (by decide) (by have := HZ.out; omega)
end Go.Proofs.YtnhbjgmfbcedaaaDoor
namespace Go.Proofs.YtnhbjgmfbcedaaaDoor
open Go.RowKit
set_option linter.unusedSimpArgs false
set_option linter.unusedVariables false
set_option maxRecDepth 100000
theorem qfixed_any (w : World) : Calls Tryd.prog 47 #[] w fun e w' => ∃ C, e = .returned (.slice (some ⟨C, 0, none⟩) 288 288) ∧ w.heap.size ≤ C ∧ Ints w' (some ⟨C, 0, none⟩) 288 Inf.fixF ∧ Ext w w' := by
  have hmk := fun w => run_make_row' (P := Tryd.prog) 31 3 (.int .i64 0) 8 Tryd.underlying31 i64info rfl .i64 .i64 288 (by omega) (by omega) w
  simp only [show ((288 : Nat) : Int) = 288 from rfl] at hmk
  go_enter Tryd.func47, Tryd.ntmps47
  go_upto_block 0 with fail
  clear hmk
  obtain ⟨C, hC⟩ : ∃ C, w.heap.size = C := ⟨_, rfl⟩
  refine wp_world (fun wz => Hid (Ext w wz) ∧ Hid (Cs wz C 288 .i64 (fun _ => 0))) ⟨Lib.hid ((Ext.refl w).alloc _), Lib.hid (by rw [made_eq, ← hC]; exact Cs.born w .i64 288 _ _)⟩ ?_
  rw [hC]
  rintro w1 ⟨HX, HC⟩
  have HCC := Lib.hid hC
  clear hC
  go_wp2_with fail
  go_loopw [2] (fun z wr => ∃ i : Nat, i ≤ 288 ∧ z = .int .i64 i ∧ Hid (Ext w wr) ∧ Hid (Cs wr C 288 .i64 (fun j => if j < i then Inf.fixF j else 0))) (fun z _ => 288 - (intOf z).toNat)
  case atStart => exact ⟨0, by omega, rfl, HX, Lib.hid (HC.out.congr (fun j _ => by rw [if_neg (by omega)]))⟩
  case round =>
    clear HX HC
    obtain ⟨i, hi, rfl, HX, HC⟩ := hrel
    by_cases hlt : i < 288
    · have hc : wr.cell? ⟨C, i, none⟩ = some (.int .i64 0) := by have h := (HC.out i hlt).1; simpa using h
      have hf := (HC.out i hlt).2
      have wi : ∀ z, z = (i : Int) + 1 → IntKind.i64.wrap z = z := by rintro _ rfl; rw [IntKind.wrap_i64]; omega
      have hi0 : (0 : Int) ≤ (i : Int) := by omega
      have hiI : (i : Int) < 288 := by omega
      by_cases h1 : i < 144
      · skip
        have t0 : decide ((i : Int) < 144) = true := decide_eq_true (by omega)
        have HN : Hid (Cs (wr.setCell ⟨C, i, none⟩ (.int .i64 8)) C 288 .i64 (fun j => if j < i + 1 then Inf.fixF j else 0)) := Lib.hid (HC.out.put i 8 _ hlt (fun j _ => by
          by_cases h : j = i
          · subst h; rw [if_pos (by omega), if_pos rfl]; unfold Inf.fixF; rw [if_pos h1]
          · rw [if_neg h]; by_cases h2 : j < i
            · rw [if_pos (by omega), if_pos h2]
            · rw [if_neg (by omega), if_neg h2]))
        have HX2 : Hid (Ext w (wr.setCell ⟨C, i, none⟩ (.int .i64 8))) := Lib.hid (Below.setCell HX.out (by show w.heap.size ≤ C; rw [HCC.out]; exact Nat.le_refl _) _)
        clear HX HC
        go_wp2_with fail
        go_roundw
        case rel => exact ⟨i + 1, by omega, by go_num, HX2, HN⟩
        case measure => simp [intOf]; omega
      · by_cases h2 : i < 256
        · skip
          have t0 : decide ((i : Int) < 144) = false := decide_eq_false (by omega)
          have t1 : decide ((i : Int) < 256) = true := decide_eq_true (by omega)
          have HN : Hid (Cs (wr.setCell ⟨C, i, none⟩ (.int .i64 9)) C 288 .i64 (fun j => if j < i + 1 then Inf.fixF j else 0)) := Lib.hid (HC.out.put i 9 _ hlt (fun j _ => by
            by_cases h : j = i
            · subst h; rw [if_pos (by omega), if_pos rfl]; unfold Inf.fixF; rw [if_neg h1, if_pos h2]
            · rw [if_neg h]; by_cases h2 : j < i
              · rw [if_pos (by omega), if_pos h2]
              · rw [if_neg (by omega), if_neg h2]))
          have HX2 : Hid (Ext w (wr.setCell ⟨C, i, none⟩ (.int .i64 9))) := Lib.hid (Below.setCell HX.out (by show w.heap.size ≤ C; rw [HCC.out]; exact Nat.le_refl _) _)
          clear HX HC
          go_wp2_with fail
          go_roundw
          case rel => exact ⟨i + 1, by omega, by go_num, HX2, HN⟩
          case measure => simp [intOf]; omega
        · by_cases h3 : i < 280
          · skip
            have t0 : decide ((i : Int) < 144) = false := decide_eq_false (by omega)
            have t1 : decide ((i : Int) < 256) = false := decide_eq_false (by omega)
            have t2 : decide ((i : Int) < 280) = true := decide_eq_true (by omega)
            have HN : Hid (Cs (wr.setCell ⟨C, i, none⟩ (.int .i64 7)) C 288 .i64 (fun j => if j < i + 1 then Inf.fixF j else 0)) := Lib.hid (HC.out.put i 7 _ hlt (fun j _ => by
              by_cases h : j = i
              · subst h; rw [if_pos (by omega), if_pos rfl]; unfold Inf.fixF; rw [if_neg h1, if_neg h2, if_pos h3]
              · rw [if_neg h]; by_cases h2 : j < i
                · rw [if_pos (by omega), if_pos h2]
                · rw [if_neg (by omega), if_neg h2]))
            have HX2 : Hid (Ext w (wr.setCell ⟨C, i, none⟩ (.int .i64 7))) := Lib.hid (Below.setCell HX.out (by show w.heap.size ≤ C; rw [HCC.out]; exact Nat.le_refl _) _)
            clear HX HC
            go_wp2_with fail
            go_roundw
            case rel => exact ⟨i + 1, by omega, by go_num, HX2, HN⟩
            case measure => simp [intOf]; omega
          · skip
            have t0 : decide ((i : Int) < 144) = false := decide_eq_false (by omega)
            have t1 : decide ((i : Int) < 256) = false := decide_eq_false (by omega)
            have t2 : decide ((i : Int) < 280) = false := decide_eq_false (by omega)
            have HN : Hid (Cs (wr.setCell ⟨C, i, none⟩ (.int .i64 8)) C 288 .i64 (fun j => if j < i + 1 then Inf.fixF j else 0)) := Lib.hid (HC.out.put i 8 _ hlt (fun j _ => by
              by_cases h : j = i
              · subst h; rw [if_pos (by omega), if_pos rfl]; unfold Inf.fixF; rw [if_neg h1, if_neg h2, if_neg h3]
              · rw [if_neg h]; by_cases h2 : j < i
                · rw [if_pos (by omega), if_pos h2]
                · rw [if_neg (by omega), if_neg h2]))
            have HX2 : Hid (Ext w (wr.setCell ⟨C, i, none⟩ (.int .i64 8))) := Lib.hid (Below.setCell HX.out (by show w.heap.size ≤ C; rw [HCC.out]; exact Nat.le_refl _) _)
            clear HX HC
            go_wp2_with fail
            go_roundw
            case rel => exact ⟨i + 1, by omega, by go_num, HX2, HN⟩
            case measure => simp [intOf]; omega
    · obtain rfl : i = 288 := by omega
      go_wp2_with fail
      go_ret
      exact ⟨C, rfl, by have := HCC.out; omega, ⟨fun e => (by cases e), fun q hq j hj => by
        injection hq with hq; subst hq; rw [add_plain]
        refine ⟨by have h := (HC.out j hj).1; simp only [if_pos hj] at h; exact h, ?_⟩
        unfold Inf.fixF; repeat (first | split | omega)⟩, HX.out⟩
end Go.Proofs.YtnhbjgmfbcedaaaDoor
namespace Go.Proofs.YtnhbjgmfbcedaaaDoor
open Go.RowKit
set_option linter.unusedSimpArgs false
set_option linter.unusedVariables false
theorem Cs.ext {w w' : World} {B n : Nat} {k : IntKind} {g : Nat → Int} (h : Cs w B n k g) (hE : Ext w w') : Cs w' B n k g := cs_keeps (S := fun _ => False) h hE.keeps id
end Go.Proofs.YtnhbjgmfbcedaaaDoor
namespace Go.Proofs.YtnhbjgmfbcedaaaDoor
open Go.RowKit
set_option linter.unusedSimpArgs false
set_option linter.unusedVariables false
set_option maxRecDepth 100000
theorem fx_tb_bs (L : List Bool) : tb (Bts.str L) = bs L := bts_ext (by rw [tb_list, bs_list])
def fxw : Nat → Value := fun i => .string (bs (Dfl.wordB Inf.fixF 288 i))
structure FxS (w wr : World) (C : Nat) (ov : Value) (Bits : List Bool) : Prop where
  rb : MRow wr w.heap.size ov (Bts.str Bits)
  old : Ext w wr
  cv : Cv wr C 288 fxw
  ap : ov.ownBlock ≠ some C
theorem FxS.ext {w wr w' : World} {C : Nat} {ov : Value} {Bits : List Bool} (h : FxS w wr C ov Bits) (hE : Ext wr w') : FxS w w' C ov Bits := ⟨h.rb.ext hE, h.old.trans hE, h.cv.ext hE, h.ap⟩
theorem FxS.bits {w wr w' : World} {C : Nat} {bv bv' : Value} {Bits M : List Bool} (h : FxS w wr C bv Bits) (hr : MRow w' w.heap.size bv' (Bts.str Bits ++ (bs M).data.toList)) (hg : wr.grownBy w' bv.ownBlock) (hat : bv'.ownBlock = bv.ownBlock ∨ bv'.ownBlock = some wr.heap.size) : FxS w w' C bv' (Bits ++ M) := by
  have hK := Keeps.grown hg
  have hlt := World.block_lt_of_cell? wr _ (h.cv 0 (by decide)).1
  refine ⟨by rw [bs_list, ← Bts.str_append] at hr; exact hr, Below.trans h.old (hK.below h.old.size (fun k hk e => by have := (h.rb.own e).1; omega)), h.cv.keeps hK h.ap, fun e => ?_⟩
  rcases hat with q | q
  · exact h.ap (q ▸ e)
  · rw [q] at e
    injection e with e
    have hlt : C < wr.heap.size := hlt
    omega
structure FxT (w wr : World) (C : Nat) (ov : Value) (Bits : List Bool) (T b : Nat) (l d : Int) : Prop where
  st : FxS w wr C ov Bits
  bx : Bk wr T #[.int .u8 (b : Int), .int .i64 l, .int .i64 d]
  ne : ov.ownBlock ≠ some T
theorem FxT.ext {w wr w' : World} {C : Nat} {ov : Value} {Bits : List Bool} {T b : Nat} {l d : Int} (h : FxT w wr C ov Bits T b l d) (hE : Ext wr w') : FxT w w' C ov Bits T b l d := ⟨h.st.ext hE, h.bx.ext hE, h.ne⟩
theorem FxT.bits {w wr w' : World} {C : Nat} {bv bv' : Value} {Bits M : List Bool} {T b : Nat} {l d : Int} (h : FxT w wr C bv Bits T b l d) (hr : MRow w' w.heap.size bv' (Bts.str Bits ++ (bs M).data.toList)) (hg : wr.grownBy w' bv.ownBlock) (hat : bv'.ownBlock = bv.ownBlock ∨ bv'.ownBlock = some wr.heap.size) : FxT w w' C bv' (Bits ++ M) T b l d := by
  refine ⟨h.st.bits hr hg hat, h.bx.keeps (Keeps.grown hg) h.ne, fun e => ?_⟩
  rcases hat with q | q
  · exact h.ne (q ▸ e)
  · rw [q] at e
    injection e with e
    have := h.bx.lt
    omega
theorem FxT.new {w wr : World} {C : Nat} {ov : Value} {Bits : List Bool} (h : FxS w wr C ov Bits) (b : Nat) (l d : Int) (ty : TypeId) : FxT w (wr.alloc (.cells #[.int .u8 (b : Int), .int .i64 l, .int .i64 d] ty)) C ov Bits wr.heap.size b l d := by
  refine ⟨h.ext ((Ext.refl _).alloc _), Bk.at rfl, fun e => ?_⟩
  have := (h.rb.own e).2
  omega
/-- a row of three bytes, built -/
theorem MRow.three (w : World) (a b c : UInt8) : MRow (w.alloc (.cells #[.int .u8 (a.toNat : Int), .int .u8 (b.toNat : Int), .int .u8 (c.toNat : Int)] 5 (3, 4))) w.heap.size (.slice (some ⟨w.heap.size, 0, none⟩) 3 3) [a, b, c] := by
  refine ⟨w.heap.size, 3, _, (3, 4), rfl, Nat.le_refl _, heap_alloc_new w _, ?_, Nat.le_refl _, by unfold maxLen; decide, rfl, rfl⟩
  intro j hj
  have hj : j < 3 := hj
  simp only [Bool.and_eq_false_iff, decide_eq_false_iff_not]
  left; omega
theorem fxw_len (i : Nat) (hi : i < 288) : (Dfl.wordB Inf.fixF 288 i).length ≤ 9 := by
  unfold Dfl.wordB Inf.fixF
  rw [Bts.high_length]
  split
  · decide
  · split
    · decide
    · split <;> decide
/-- bits of a token in the fixed block -/
theorem fx_tok0 (t : Tk) (h : t.l = 0) : Dfl.tokB Inf.fixF 288 Inf.fiveF 32 t = Dfl.wordB Inf.fixF 288 t.b.toNat := by unfold Dfl.tokB; rw [if_pos h]
theorem fx_tok1 (t : Tk) (h : t.l ≠ 0) (k d : Nat) (hk : Dfl.plc Inf.lensL t.l.toNat = k) (hd : Dfl.plc Inf.distsL t.d.toNat = d) (hd3 : d < 30) : Dfl.tokB Inf.fixF 288 Inf.fiveF 32 t = Dfl.wordB Inf.fixF 288 (257 + k) ++ (Bts.low (t.l.toNat - Inf.lensL.getD k 0) (Inf.lensB.getD k 0) ++ (Bts.high d 5 ++ Bts.low (t.d.toNat - Inf.distsL.getD d 0) (Inf.distsB.getD d 0))) := by
  unfold Dfl.tokB
  rw [if_neg h, hk, hd]
  have : Dfl.wordB Inf.fiveF 32 d = Bts.high d 5 := by
    unfold Dfl.wordB
    have h5 : ∀ k, k < 32 → word Inf.fiveF 32 k = k := by decide +kernel
    rw [h5 d (by omega)]
    rfl
  rw [this]
theorem fx_toks (n : Nat) (tk : Nat → Tk) : Dfl.toksB Inf.fixF 288 Inf.fiveF 32 ((List.range (n + 1)).map tk) = Dfl.toksB Inf.fixF 288 Inf.fiveF 32 ((List.range n).map tk) ++ Dfl.tokB Inf.fixF 288 Inf.fiveF 32 (tk n) := by
  rw [List.range_succ, List.map_append]
  simp [Dfl.toksB]
end Go.Proofs.YtnhbjgmfbcedaaaDoor
