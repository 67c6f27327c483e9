/-
  The document's lengths of a fixed block.
  A packed text read: where it ends. No function of the program is named.
-/
import Derived.Test.YtnhbjgmfbcedaaaDoorUnzipTellsG16
import Derived.Test.YtnhbjgmfbcedaaaDoorUnzipTellsG9
namespace Go.Proofs.YtnhbjgmfbcedaaaDoor
open Go.RowKit
set_option linter.unusedSimpArgs false
set_option maxRecDepth 100000
theorem qfixed_any (w : World) : Calls Tryd.prog 47 #[] w fun e w' => ∃ C, e = .returned (.slice (some ⟨C, 0, none⟩) 288 288) ∧ w.heap.size ≤ C ∧ Ints w' (some ⟨C, 0, none⟩) 288 Inf.fixF ∧ Ext w w' := by
  have hmk := fun w => run_make_row' (P := Tryd.prog) 31 3 (.int .i64 0) 8 Tryd.underlying31 i64info rfl .i64 .i64 288 (by omega) (by omega) w
  simp only [show ((288 : Nat) : Int) = 288 from rfl] at hmk
  go_enter Tryd.func47, Tryd.ntmps47
  go_upto_block 0 with fail
  clear hmk
  obtain ⟨C, hC⟩ : ∃ C, w.heap.size = C := ⟨_, rfl⟩
  refine wp_world (fun wz => Hid (Ext w wz) ∧ Hid (Cs wz C 288 .i64 (fun _ => 0))) ⟨Lib.hid ((Ext.refl w).alloc _), Lib.hid (by rw [made_eq, ← hC]; exact Cs.born w .i64 288 _ _)⟩ ?_
  rw [hC]
  rintro w1 ⟨HX, HC⟩
  have HCC := Lib.hid hC
  clear hC
  go_wp2_with fail
  go_loopw [2] (fun z wr => ∃ i : Nat, i ≤ 288 ∧ z = .int .i64 i ∧ Hid (Ext w wr) ∧ Hid (Cs wr C 288 .i64 (fun j => if j < i then Inf.fixF j else 0))) (fun z _ => 288 - (intOf z).toNat)
  case atStart => exact ⟨0, by omega, rfl, HX, Lib.hid (HC.out.congr (fun j _ => by rw [if_neg (by omega)]))⟩
  case round =>
    clear HX HC
    obtain ⟨i, hi, rfl, HX, HC⟩ := hrel
    by_cases hlt : i < 288
    · have hc : wr.cell? ⟨C, i, none⟩ = some (.int .i64 0) := by have h := (HC.out i hlt).1; simpa using h
      have hf := (HC.out i hlt).2
      have wi : ∀ z, z = (i : Int) + 1 → IntKind.i64.wrap z = z := by rintro _ rfl; rw [IntKind.wrap_i64]; omega
      have hi0 : (0 : Int) ≤ (i : Int) := by omega
      have hiI : (i : Int) < 288 := by omega
      by_cases h1 : i < 144
      · skip
        have t0 : decide ((i : Int) < 144) = true := decide_eq_true (by omega)
        have HN : Hid (Cs (wr.setCell ⟨C, i, none⟩ (.int .i64 8)) C 288 .i64 (fun j => if j < i + 1 then Inf.fixF j else 0)) := Lib.hid (HC.out.put i 8 _ hlt (fun j _ => by
          by_cases h : j = i
          · subst h; rw [if_pos (by omega), if_pos rfl]; unfold Inf.fixF; rw [if_pos h1]
          · rw [if_neg h]; by_cases h2 : j < i
            · rw [if_pos (by omega), if_pos h2]
            · rw [if_neg (by omega), if_neg h2]))
        have HX2 : Hid (Ext w (wr.setCell ⟨C, i, none⟩ (.int .i64 8))) := Lib.hid (Below.setCell HX.out (by show w.heap.size ≤ C; rw [HCC.out]; exact Nat.le_refl _) _)
        clear HX HC
        go_wp2_with fail
        go_roundw
        case rel => exact ⟨i + 1, by omega, by go_num, HX2, HN⟩
        case measure => simp [intOf]; omega
      · by_cases h2 : i < 256
        · skip
          have t0 : decide ((i : Int) < 144) = false := decide_eq_false (by omega)
          have t1 : decide ((i : Int) < 256) = true := decide_eq_true (by omega)
          have HN : Hid (Cs (wr.setCell ⟨C, i, none⟩ (.int .i64 9)) C 288 .i64 (fun j => if j < i + 1 then Inf.fixF j else 0)) := Lib.hid (HC.out.put i 9 _ hlt (fun j _ => by
            by_cases h : j = i
            · subst h; rw [if_pos (by omega), if_pos rfl]; unfold Inf.fixF; rw [if_neg h1, if_pos h2]
            · rw [if_neg h]; by_cases h2 : j < i
              · rw [if_pos (by omega), if_pos h2]
              · rw [if_neg (by omega), if_neg h2]))
          have HX2 : Hid (Ext w (wr.setCell ⟨C, i, none⟩ (.int .i64 9))) := Lib.hid (Below.setCell HX.out (by show w.heap.size ≤ C; rw [HCC.out]; exact Nat.le_refl _) _)
          clear HX HC
          go_wp2_with fail
          go_roundw
          case rel => exact ⟨i + 1, by omega, by go_num, HX2, HN⟩
          case measure => simp [intOf]; omega
        · by_cases h3 : i < 280
          · skip
            have t0 : decide ((i : Int) < 144) = false := decide_eq_false (by omega)
            have t1 : decide ((i : Int) < 256) = false := decide_eq_false (by omega)
            have t2 : decide ((i : Int) < 280) = true := decide_eq_true (by omega)
            have HN : Hid (Cs (wr.setCell ⟨C, i, none⟩ (.int .i64 7)) C 288 .i64 (fun j => if j < i + 1 then Inf.fixF j else 0)) := Lib.hid (HC.out.put i 7 _ hlt (fun j _ => by
              by_cases h : j = i
              · subst h; rw [if_pos (by omega), if_pos rfl]; unfold Inf.fixF; rw [if_neg h1, if_neg h2, if_pos h3]
              · rw [if_neg h]; by_cases h2 : j < i
                · rw [if_pos (by omega), if_pos h2]
                · rw [if_neg (by omega), if_neg h2]))
            have HX2 : Hid (Ext w (wr.setCell ⟨C, i, none⟩ (.int .i64 7))) := Lib.hid (Below.setCell HX.out (by show w.heap.size ≤ C; rw [HCC.out]; exact Nat.le_refl _) _)
            clear HX HC
            go_wp2_with fail
            go_roundw
            case rel => exact ⟨i + 1, by omega, by go_num, HX2, HN⟩
            case measure => simp [intOf]; omega
          · skip
            have t0 : decide ((i : Int) < 144) = false := decide_eq_false (by omega)
            have t1 : decide ((i : Int) < 256) = false := decide_eq_false (by omega)
            have t2 : decide ((i : Int) < 280) = false := decide_eq_false (by omega)
            have HN : Hid (Cs (wr.setCell ⟨C, i, none⟩ (.int .i64 8)) C 288 .i64 (fun j => if j < i + 1 then Inf.fixF j else 0)) := Lib.hid (HC.out.put i 8 _ hlt (fun j _ => by
              by_cases h : j = i
              · subst h; rw [if_pos (by omega), if_pos rfl]; unfold Inf.fixF; rw [if_neg h1, if_neg h2, if_neg h3]
              · rw [if_neg h]; by_cases h2 : j < i
                · rw [if_pos (by omega), if_pos h2]
                · rw [if_neg (by omega), if_neg h2]))
            have HX2 : Hid (Ext w (wr.setCell ⟨C, i, none⟩ (.int .i64 8))) := Lib.hid (Below.setCell HX.out (by show w.heap.size ≤ C; rw [HCC.out]; exact Nat.le_refl _) _)
            clear HX HC
            go_wp2_with fail
            go_roundw
            case rel => exact ⟨i + 1, by omega, by go_num, HX2, HN⟩
            case measure => simp [intOf]; omega
    · obtain rfl : i = 288 := by omega
      go_wp2_with fail
      go_ret
      exact ⟨C, rfl, by have := HCC.out; omega, ⟨fun e => (by cases e), fun q hq j hj => by
        injection hq with hq; subst hq; rw [add_plain]
        refine ⟨by have h := (HC.out j hj).1; simp only [if_pos hj] at h; exact h, ?_⟩
        unfold Inf.fixF; repeat (first | split | omega)⟩, HX.out⟩
end Go.Proofs.YtnhbjgmfbcedaaaDoor
namespace Go.Proofs.YtnhbjgmfbcedaaaDoor
open Go.RowKit
set_option linter.unusedSimpArgs false
namespace Inf
theorem get_end {L : List UInt8} {k a n a' : Nat} (h : get L k a = .ok (n, a')) : a' ≤ 8 * L.length := by have := get_ok h; omega
theorem smalls_end {L : List UInt8} : ∀ (r i a : Nat) (f f' : Nat → Int) (a' : Nat), a ≤ 8 * L.length → smalls L r i a f = .ok (f', a') → a' ≤ 8 * L.length := by
  intro r
  induction r with
  | zero => intro i a f f' a' ha h; injection h with h; injection h with h1 h2; omega
  | succ r ih =>
    intro i a f f' a' ha h
    simp only [smalls] at h
    split at h
    · cases h
    · rename_i x a2 hg
      exact ih _ _ _ _ _ (get_end hg) h
theorem rep_end {L : List UInt8} {k a t w a' : Nat} {l : List Nat} (ha : a ≤ 8 * L.length) (h : rep L k a l = .ok (t, w, a')) : a' ≤ 8 * L.length := by
  unfold rep at h
  split at h
  · split at h
    · cases h
    · split at h
      · cases h
      · rename_i x a2 hg
        have := get_end hg
        injection h with h; injection h with _ h; injection h with _ h; omega
  · split at h
    · split at h
      · cases h
      · rename_i x a2 hg
        have := get_end hg
        injection h with h; injection h with _ h; injection h with _ h; omega
    · split at h
      · split at h
        · cases h
        · rename_i x a2 hg
          have := get_end hg
          injection h with h; injection h with _ h; injection h with _ h; omega
      · injection h with h; injection h with _ h; injection h with _ h; omega
theorem lens_end {L : List UInt8} {f : Nat → Int} {want : Nat} : ∀ (F a : Nat) (l l' : List Nat) (a' : Nat), a ≤ 8 * L.length → lens L f want F a l = .ok (l', a') → a' ≤ 8 * L.length := by
  intro F
  induction F with
  | zero => intro a l l' a' _ h; cases h
  | succ F ih =>
    intro a l l' a' ha h
    simp only [lens] at h
    split at h
    · injection h with h; injection h with h1 h2; omega
    · split at h
      · cases h
      · rename_i k a1 hn
        have h1 := (nxt_le hn).2.1
        split at h
        · cases h
        · rename_i t w a2 hr
          have h2 := rep_end h1 hr
          split at h
          · cases h
          · exact ih _ _ _ _ h2 h
theorem dyn_end {L : List UInt8} {a a' : Nat} {l d : List Nat} (h : dyn L a = .ok (l, d, a')) : a' ≤ 8 * L.length := by
  unfold dyn at h
  split at h
  · cases h
  · rename_i m a1 h1
    split at h
    · cases h
    · rename_i r a2 h2
      split at h
      · cases h
      · rename_i w a3 h3
        split at h
        · cases h
        · split at h
          · cases h
          · rename_i f a4 h4
            split at h
            · cases h
            · split at h
              · cases h
              · rename_i l0 a5 h5
                split at h
                · cases h
                · split at h
                  · cases h
                  · split at h
                    · cases h
                    · have q4 := smalls_end _ _ _ _ _ _ (get_end h3) h4
                      have q5 := lens_end _ _ _ _ _ q4 h5
                      injection h with h; injection h with _ h; injection h with _ h
                      omega
theorem tok_end {L : List UInt8} {most : Nat} {g : Nat → Int} {gen k a a' : Nat} {out out' : List UInt8} {e : Ev} (ha : a ≤ 8 * L.length) (h : tok L most g gen k a out = .ok (a', out', e)) : a' ≤ 8 * L.length := by
  unfold tok at h
  split at h
  · split at h
    · injection h with h; injection h with h1 h; omega
    · cases h
  · split at h
    · cases h
    · split at h
      · cases h
      · rename_i x a2 hx
        split at h
        · cases h
        · rename_i d a3 hd
          unfold far at h
          split at h
          · cases h
          · split at h
            · cases h
            · rename_i y a4 hy
              have h3 := get_end hy
              split at h
              · cases h
              · split at h
                · cases h
                · injection h with h; injection h with e1 h; omega
theorem toks_end {L : List UInt8} {most : Nat} {f g : Nat → Int} {len gen : Nat} : ∀ (F a : Nat) (out : List UInt8) (tr : List Ev) (a' : Nat) (out' : List UInt8) (tr' : List Ev), toks L most f len g gen F a out tr = .ok (a', out', tr') → a' ≤ 8 * L.length ∧ tr'.length + a ≤ a' + tr.length := by
  intro F
  induction F with
  | zero => intro a out tr a' out' tr' h; cases h
  | succ F ih =>
    intro a out tr a' out' tr' h
    simp only [toks] at h
    split at h
    · cases h
    · rename_i k a1 hn
      obtain ⟨h1, h2, -⟩ := nxt_le hn
      split at h
      · injection h with h; injection h with e1 h; injection h with e2 e3
        subst e1 e2 e3; rw [List.length_append]; exact ⟨h2, by simp; omega⟩
      · split at h
        · cases h
        · rename_i a2 out2 e ht
          have q1 := ih _ _ _ _ _ _ h
          have q2 := (tok_grow ht).1
          rw [List.length_append] at q1
          simp at q1
          omega
theorem stored_end {L : List UInt8} {most a a' : Nat} {out out' : List UInt8} (h : stored L most a out = .ok (a', out')) : a' ≤ 8 * L.length := by
  unfold stored at h
  split at h
  · cases h
  · split at h
    · cases h
    · split at h
      · cases h
      · split at h
        · cases h
        · split at h
          · cases h
          · injection h with h; injection h with e1 e2; omega
section
variable {L : List UInt8} {most a a1 a2 last : Nat} {out : List UInt8}
theorem block_e1 {c : Nat} (h1 : get L 1 a = .error c) : block L most a out = .error c := by unfold block; simp only [h1]
theorem block_e2 {c : Nat} (h1 : get L 1 a = .ok (last, a1)) (h2 : get L 2 a1 = .error c) : block L most a out = .error c := by unfold block; simp only [h1, h2]
theorem block_ste {c : Nat} (h1 : get L 1 a = .ok (last, a1)) (h2 : get L 2 a1 = .ok (0, a2)) (h3 : stored L most a2 out = .error c) : block L most a out = .error c := by unfold block; simp only [h1, h2, if_pos, h3]
theorem block_sto {a3 : Nat} {out3 : List UInt8} (h1 : get L 1 a = .ok (last, a1)) (h2 : get L 2 a1 = .ok (0, a2)) (h3 : stored L most a2 out = .ok (a3, out3)) : block L most a out = .ok (last, a3, out3, ⟨0, [], [], []⟩) := by unfold block; simp only [h1, h2, if_pos, h3]
theorem block_fxe {c : Nat} (h1 : get L 1 a = .ok (last, a1)) (h2 : get L 2 a1 = .ok (1, a2)) (h3 : toks L most fixF 288 fiveF 32 (8 * L.length + 1) a2 out [] = .error c) : block L most a out = .error c := by unfold block; simp only [h1, h2, if_neg (show ¬ (1 : Nat) = 0 by decide), if_pos, h3]
theorem block_fxo {a3 : Nat} {out3 : List UInt8} {tr : List Ev} (h1 : get L 1 a = .ok (last, a1)) (h2 : get L 2 a1 = .ok (1, a2)) (h3 : toks L most fixF 288 fiveF 32 (8 * L.length + 1) a2 out [] = .ok (a3, out3, tr)) : block L most a out = .ok (last, a3, out3, ⟨1, [], [], tr⟩) := by unfold block; simp only [h1, h2, if_neg (show ¬ (1 : Nat) = 0 by decide), if_pos, h3]
theorem block_de {c : Nat} (h1 : get L 1 a = .ok (last, a1)) (h2 : get L 2 a1 = .ok (2, a2)) (h3 : dyn L a2 = .error c) : block L most a out = .error c := by
  unfold block; simp only [h1, h2, if_neg (show ¬ (2 : Nat) = 0 by decide), if_neg (show ¬ (2 : Nat) = 1 by decide), if_pos, h3]
theorem block_dye {c : Nat} {l d : List Nat} {a3 : Nat} (h1 : get L 1 a = .ok (last, a1)) (h2 : get L 2 a1 = .ok (2, a2)) (h3 : dyn L a2 = .ok (l, d, a3)) (h4 : toks L most (fn l) l.length (fn d) d.length (8 * L.length + 1) a3 out [] = .error c) : block L most a out = .error c := by
  unfold block; simp only [h1, h2, if_neg (show ¬ (2 : Nat) = 0 by decide), if_neg (show ¬ (2 : Nat) = 1 by decide), if_pos, h3, h4]
theorem block_dyo {l d : List Nat} {a3 a4 : Nat} {out4 : List UInt8} {tr : List Ev} (h1 : get L 1 a = .ok (last, a1)) (h2 : get L 2 a1 = .ok (2, a2)) (h3 : dyn L a2 = .ok (l, d, a3)) (h4 : toks L most (fn l) l.length (fn d) d.length (8 * L.length + 1) a3 out [] = .ok (a4, out4, tr)) : block L most a out = .ok (last, a4, out4, ⟨2, l, d, tr⟩) := by
  unfold block; simp only [h1, h2, if_neg (show ¬ (2 : Nat) = 0 by decide), if_neg (show ¬ (2 : Nat) = 1 by decide), if_pos, h3, h4]
theorem block_no {kind : Nat} (h1 : get L 1 a = .ok (last, a1)) (h2 : get L 2 a1 = .ok (kind, a2)) (h3 : 3 ≤ kind) : block L most a out = .error 0 := by
  unfold block; simp only [h1, h2, if_neg (show ¬ kind = 0 by omega), if_neg (show ¬ kind = 1 by omega), if_neg (show ¬ kind = 2 by omega)]
end
end Inf
end Go.Proofs.YtnhbjgmfbcedaaaDoor
