/- The document's packed bits. -/
import Derived.Test.YtdeiolagnheihaaDoorRefBits
import Derived.Test.YtdeiolagnheihaaDoorWriter
import Derived.Test.YtdeiolagnheihaaDoorCells
import Derived.StillTailTactics
import Derived.IntWalk
namespace Go.Proofs.YtdeiolagnheihaaDoor
open Go.RowKit
set_option maxRecDepth 100000
theorem num_made (m : Nat) : ∀ V : Nat, Crc.num ((List.range m).map fun j => UInt8.ofNat (V / 256 ^ j % 256)) = V % 256 ^ m := by
  induction m with
  | zero => intro V; simp [Crc.num, Nat.mod_one]
  | succ m ih =>
    intro V
    rw [List.range_succ_eq_map, List.map_cons, List.map_map]
    have e : ((fun j => UInt8.ofNat (V / 256 ^ j % 256)) ∘ Nat.succ) = fun j => UInt8.ofNat (V / 256 / 256 ^ j % 256) := by
      funext j; simp only [Function.comp]; rw [Nat.succ_eq_add_one, Nat.pow_succ, Nat.mul_comm, ← Nat.div_div_eq_div_mul]
    rw [e]
    simp only [Crc.num]
    rw [ih (V / 256), Nat.pow_succ, Nat.mul_comm (256 ^ m), Nat.mod_mul]
    simp
/-- a row of bytes whose number is known, as a text -/
theorem text_of_cells (w : World) (B n cap V : Nat) (hC : Cs w B n .u8 (fun j => ((V / 256 ^ j % 256 : Nat) : Int))) :
    (convert 23 9 (.slice (some ⟨B, 0, none⟩) n cap)).run Tryd.prog w = .ok (.string ⟨((List.range n).map fun j => UInt8.ofNat (V / 256 ^ j % 256)).toArray⟩) w := by
  have h := run_convert_bytes_back (P := Tryd.prog) w 23 9 5 ⟨B, 0, none⟩ cap ((List.range n).map fun j => UInt8.ofNat (V / 256 ^ j % 256)) Tryd.underlying23 Tryd.underlying5 Tryd.underlying9 (fun j hj => by
    rw [add_plain, (hC j (by simpa using hj)).1]; simp)
  simpa using h
theorem packed_any (L : List Bool) (hL : L.length ≤ 1000000) (w : World) : Calls Tryd.prog 51 #[.string (bs L)] w fun e w' => (∃ l : List UInt8, l.length = (L.length + 7) / 8 ∧ Crc.num l = Bts.val L ∧ e = .returned (.string ⟨l.toArray⟩)) ∧ Ext w w' := by
  have hz := bs_size L
  have hs : (bs L).size ≤ 1000000 := by omega
  have HS : Hid ((bs L).data.toList = Bts.str L) := Lib.hid (bs_list L)
  have HZ := Lib.hid hz
  rw [← hz]
  clear hz hL
  generalize bs L = s at *
  have hmk : ∀ w, (Instr.makeSlice 23 (.int .i64 (((s.size : Int) + 7) / 8)) (.int .i64 (((s.size : Int) + 7) / 8))).run Tryd.prog w = .ok (.slice (some ⟨w.heap.size, 0, none⟩) ((s.size + 7) / 8) ((s.size + 7) / 8)) (w.alloc (.cells (cellsI .u8 ((s.size + 7) / 8) (fun _ => 0)) 5)) := by
    intro w
    have h := run_make_row' (P := Tryd.prog) 23 5 (.int .u8 0) 1 Tryd.underlying23 u8info rfl .i64 .i64 ((s.size + 7) / 8) (by omega) (by omega) w
    rw [made_eq, show (((s.size + 7) / 8 : Nat) : Int) = ((s.size : Int) + 7) / 8 by omega] at h
    exact h
  go_enter Tryd.func51, Tryd.ntmps51
  go_wp2_with fail
  obtain ⟨m, hm⟩ : ∃ m, (s.size + 7) / 8 = m := ⟨_, rfl⟩
  have hm1 : 8 * m ≤ s.size + 7 := by omega
  have hm2 : s.size ≤ 8 * m := by omega
  rw [hm]
  have HM := Lib.hid hm
  clear hm hmk
  go_loopw [4] (fun c wr => ∃ i : Nat, i ≤ s.size ∧ c = .int .i64 i ∧ Hid (Cs wr w.heap.size m .u8 (fun j => ((Bts.val (L.take i) / 256 ^ j % 256 : Nat) : Int))) ∧ Hid (Ext w wr)) (fun c _ => s.size - (intOf c).toNat)
  case atStart =>
    refine ⟨0, by omega, rfl, Lib.hid ?_, Lib.hid ((Ext.refl w).alloc _)⟩
    exact (Cs.born w .u8 m (fun _ => 0) _).congr (fun i hi => by simp [Bts.val])
  case round =>
    obtain ⟨i, hi, rfl, HC, HX⟩ := hrel
    by_cases hlt : i < s.size
    · have hL : i < L.length := by have := HZ.out; omega
      have hb : s[i].toNat = 48 + (if L[i] = true then 1 else 0) := by
        rw [← Bts.ch_toNat]
        congr 1
        have e : s[i] = s.data.toList[i]'(by simpa using hlt) := rfl
        rw [e]
        simp only [HS.out, Bts.str, List.getElem_map]
      have hts := Bts.take_succ L i hL
      have hv := Bts.take_lt L i (by omega)
      by_cases hbit : L[i] = true
      · rw [if_pos hbit] at hb hts
        have t1 : ((s[i].toNat : Int) == 49) = true := by rw [hb]; rfl
        obtain ⟨c0, z0⟩ := HC.out (i / 8) (by omega)
        have HTS := Lib.hid hts
        have HV := Lib.hid hv
        clear hts hb hbit
        go_wp2_with fail
        obtain ⟨k, hk⟩ : ∃ k, i / 8 = k := ⟨_, rfl⟩
        obtain ⟨r, hr⟩ : ∃ r, i % 8 = r := ⟨_, rfl⟩
        rw [hk] at c0 z0
        have hkm : k < m := by omega
        have hr8 : r < 8 := by omega
        have e1 : IntKind.i64.wrap ((i : Int) / 8) = (k : Int) := by rw [IntWalk.i64_in _ (by omega)]; omega
        have e7 : (i : Int).tmod 8 = (r : Int) := by rw [Int.tmod_eq_emod_of_nonneg (by omega)]; omega
        have HK := Lib.hid hk
        have HR := Lib.hid hr
        have HQ := Lib.hid (Bts.byte_small _ i hv)
        rw [hk, hr] at HQ
        clear hk hr hv
        go_still_tail 13, (by kernel_rfl)
        clear e1 e7
        change wpList _ _ _ _ _ wr.drew
        go_wp2_with fail
        go_roundw
        case rel => exact ⟨i + 1, by omega, by go_num, Lib.hid (Cs.put (Cs.drew HC.out) k _ _ (by omega) (fun j _ => by
            rw [HTS.out, Nat.one_mul, Bts.byte_add _ i j HV.out, HK.out, HR.out]
            by_cases hj : j = k
            · subst hj; rw [if_pos rfl, if_pos rfl]; have q := HQ.out; rw [show ((Bts.val (L.take i) : Int) / 256 ^ j) = ((Bts.val (L.take i) / 256 ^ j : Nat) : Int) by simp, show (2 : Int) ^ r = ((2 ^ r : Nat) : Int) by simp]; generalize Bts.val (L.take i) / 256 ^ j = y at *; generalize 2 ^ r = z at *; omega
            · rw [if_neg hj, if_neg hj])), Lib.hid (Below.setCell (Below.drew HX.out) (by simp) _)⟩
        case measure => simp [intOf]; omega
      · rw [if_neg hbit] at hb hts
        have t1 : ((s[i].toNat : Int) == 49) = false := by rw [hb]; rfl
        have HTS := Lib.hid hts
        clear hts hv hb hbit
        go_wp2_with fail
        go_roundw
        case rel => exact ⟨i + 1, by omega, by go_num, Lib.hid (HC.out.congr (fun j _ => by rw [HTS.out]; simp)), HX⟩
        case measure => simp [intOf]; omega
    · obtain rfl : i = s.size := by omega
      have hcr := text_of_cells wr w.heap.size m m (Bts.val (L.take s.size)) HC.out
      go_wp2_with fail
      go_ret
      refine ⟨⟨_, ?_, ?_, rfl⟩, HX.out⟩
      · rw [HM.out]; simp
      · have q := Bts.val_lt L
        rw [num_made, List.take_of_length_le (by rw [HZ.out]; exact Nat.le_refl _), Nat.mod_eq_of_lt]
        refine Nat.lt_of_lt_of_le q ?_
        rw [show (256 : Nat) = 2 ^ 8 from rfl, ← Nat.pow_mul]
        exact Nat.pow_le_pow_right (by decide) (by have := HZ.out; omega)
end Go.Proofs.YtdeiolagnheihaaDoor
