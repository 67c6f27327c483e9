/-
  A packed text read: blocks, one behind the other: what they may not pass. No function of the program is named.
  A packed text read: where it ends. No function of the program is named.
  Stored blocks: what they are, and what they mean. No function of the program is named.
  A writer of bits: Bytes, behind what is aligned.
  A packed text read: how many bytes there may be. No function of the program is named.
  deflate.stored, deflate.Stored.
  The document's bits: Byte, Low, High.
-/
import Derived.Test.YtnhbjgmfbcedaaaDoorDeflateStoredG4
import Derived.Test.YtnhbjgmfbcedaaaDoorDeflateStoredG1
import Derived.Deep.LoopGhost
import Derived.Deep.DeepCutAuto
import Derived.Deep.CutBlock
import Derived.Test.YtnhbjgmfbcedaaaDoorDeflateStoredG2
import Derived.Outline
namespace Go.Proofs.YtnhbjgmfbcedaaaDoor
open Go.RowKit
set_option linter.unusedSimpArgs false
namespace Inf
theorem get_mono {L : List UInt8} {k a n a' : Nat} (h : get L k a = .ok (n, a')) : a' = a + k := (get_ok h).1
theorem tok_grow {L : List UInt8} {most : Nat} {g : Nat → Int} {gen k a a' : Nat} {out out' : List UInt8} {e : Ev} (h : tok L most g gen k a out = .ok (a', out', e)) : a ≤ a' ∧ out.length ≤ out'.length ∧ out'.length ≤ most := by
  unfold tok at h
  split at h
  · split at h
    · injection h with h; injection h with h1 h; injection h with h2 h3
      subst h1 h2; exact ⟨Nat.le_refl _, by simp, by simp; omega⟩
    · cases h
  · split at h
    · cases h
    · split at h
      · cases h
      · rename_i x a2 hx
        split at h
        · cases h
        · rename_i d a3 hd
          have h1 := get_mono hx
          have h2 := (nxt_le hd).1
          unfold far at h
          split at h
          · cases h
          · split at h
            · cases h
            · rename_i y a4 hy
              have h3 := get_mono hy
              split at h
              · cases h
              · split at h
                · cases h
                · injection h with h; injection h with e1 h; injection h with e2 e3
                  subst e1 e2
                  rw [copyL_length]
                  exact ⟨by omega, by omega, by omega⟩
theorem toks_grow {L : List UInt8} {most : Nat} {f g : Nat → Int} {len gen : Nat} : ∀ (F a : Nat) (out : List UInt8) (tr : List Ev) (a' : Nat) (out' : List UInt8) (tr' : List Ev), out.length ≤ most → toks L most f len g gen F a out tr = .ok (a', out', tr') → a ≤ a' ∧ out'.length ≤ most := by
  intro F
  induction F with
  | zero => intro a out tr a' out' tr' _ h; cases h
  | succ F ih =>
    intro a out tr a' out' tr' ho h
    simp only [toks] at h
    split at h
    · cases h
    · rename_i k a1 hn
      have h1 := (nxt_le hn).1
      split at h
      · injection h with h; injection h with e1 h; injection h with e2 e3
        subst e1 e2; exact ⟨by omega, ho⟩
      · split at h
        · cases h
        · rename_i a2 out2 e ht
          have h2 := tok_grow ht
          have h3 := ih _ _ _ _ _ _ h2.2.2 h
          exact ⟨by omega, h3.2⟩
theorem stored_grow {L : List UInt8} {most a a' : Nat} {out out' : List UInt8} (h : stored L most a out = .ok (a', out')) : a ≤ a' ∧ out'.length ≤ most := by
  unfold stored at h
  split at h
  · cases h
  · rename_i n a2 h1
    split at h
    · cases h
    · rename_i m a3 h2
      split at h
      · cases h
      · split at h
        · cases h
        · split at h
          · cases h
          · injection h with h; injection h with e1 e2
            have q1 := get_mono h1
            have q2 := get_mono h2
            subst e1 e2
            rw [List.length_append, List.length_take]
            exact ⟨by omega, by omega⟩
theorem smalls_grow {L : List UInt8} : ∀ (r i a : Nat) (f f' : Nat → Int) (a' : Nat), smalls L r i a f = .ok (f', a') → a ≤ a' := by
  intro r
  induction r with
  | zero => intro i a f f' a' h; injection h with h; injection h with h1 h2; omega
  | succ r ih =>
    intro i a f f' a' h
    simp only [smalls] at h
    split at h
    · cases h
    · rename_i x a2 hg
      have := get_mono hg
      have := ih _ _ _ _ _ h
      omega
theorem rep_grow {L : List UInt8} {k a t w a' : Nat} {l : List Nat} (h : rep L k a l = .ok (t, w, a')) : a ≤ a' := by
  unfold rep at h
  split at h
  · split at h
    · cases h
    · split at h
      · cases h
      · rename_i x a2 hg
        have := get_mono hg
        injection h with h; injection h with _ h; injection h with _ h; omega
  · split at h
    · split at h
      · cases h
      · rename_i x a2 hg
        have := get_mono hg
        injection h with h; injection h with _ h; injection h with _ h; omega
    · split at h
      · split at h
        · cases h
        · rename_i x a2 hg
          have := get_mono hg
          injection h with h; injection h with _ h; injection h with _ h; omega
      · injection h with h; injection h with _ h; injection h with _ h; omega
theorem lens_grow {L : List UInt8} {f : Nat → Int} {want : Nat} : ∀ (F a : Nat) (l l' : List Nat) (a' : Nat), l.length ≤ want → lens L f want F a l = .ok (l', a') → a ≤ a' ∧ l'.length = want := by
  intro F
  induction F with
  | zero => intro a l l' a' _ h; cases h
  | succ F ih =>
    intro a l l' a' hl h
    simp only [lens] at h
    split at h
    · injection h with h; injection h with h1 h2; subst h1; exact ⟨by omega, by omega⟩
    · split at h
      · cases h
      · rename_i k a1 hn
        have h1 := (nxt_le hn).1
        split at h
        · cases h
        · rename_i t w a2 hr
          have h2 := rep_grow hr
          split at h
          · cases h
          · have := ih _ _ _ _ (by rw [List.length_append, List.length_replicate]; omega) h
            exact ⟨by omega, this.2⟩
theorem dyn_grow {L : List UInt8} {a a' : Nat} {l d : List Nat} (h : dyn L a = .ok (l, d, a')) : a ≤ a' := by
  unfold dyn at h
  split at h
  · cases h
  · rename_i m a1 h1
    split at h
    · cases h
    · rename_i r a2 h2
      split at h
      · cases h
      · rename_i w a3 h3
        split at h
        · cases h
        · split at h
          · cases h
          · rename_i f a4 h4
            split at h
            · cases h
            · split at h
              · cases h
              · rename_i l0 a5 h5
                split at h
                · cases h
                · split at h
                  · cases h
                  · split at h
                    · cases h
                    · have q1 := get_mono h1
                      have q2 := get_mono h2
                      have q3 := get_mono h3
                      have q4 := smalls_grow _ _ _ _ _ _ h4
                      have q5 := (lens_grow _ _ _ _ _ (Nat.zero_le _) h5).1
                      injection h with h; injection h with _ h; injection h with _ h
                      omega
theorem block_grow {L : List UInt8} {most a last a' : Nat} {out out' : List UInt8} {b : Blk} (ho : out.length ≤ most) (h : block L most a out = .ok (last, a', out', b)) : a < a' ∧ out'.length ≤ most := by
  unfold block at h
  split at h
  · cases h
  · rename_i la a1 h1
    split at h
    · cases h
    · rename_i kind a2 h2
      have q1 := get_mono h1
      have q2 := get_mono h2
      split at h
      · split at h
        · cases h
        · rename_i a3 o3 h3
          have := stored_grow h3
          injection h with h; injection h with _ h; injection h with e1 h; injection h with e2 _
          subst e1 e2; exact ⟨by omega, this.2⟩
      · split at h
        · split at h
          · cases h
          · rename_i a3 o3 tr h3
            have := toks_grow _ _ _ _ _ _ _ ho h3
            injection h with h; injection h with _ h; injection h with e1 h; injection h with e2 _
            subst e1 e2; exact ⟨by omega, this.2⟩
        · split at h
          · split at h
            · cases h
            · rename_i l r a3 h3
              have p1 := dyn_grow h3
              split at h
              · cases h
              · rename_i a4 o4 tr h4
                have := toks_grow _ _ _ _ _ _ _ ho h4
                injection h with h; injection h with _ h; injection h with e1 h; injection h with e2 _
                subst e1 e2; exact ⟨by omega, this.2⟩
          · cases h
section
variable {L : List UInt8} {most F a : Nat} {out : List UInt8} {bs : List Blk} {r : Except Nat (Nat × List UInt8 × List Blk)}
theorem blocks_err {c : Nat} (hF : 0 < F) (h : blocks L most F a out bs = r) (e : block L most a out = .error c) : r = .error c := by
  cases F with
  | zero => omega
  | succ F => simp only [blocks, e] at h; exact h.symm
theorem blocks_last {a1 : Nat} {out1 : List UInt8} {b : Blk} (hF : 0 < F) (h : blocks L most F a out bs = r) (e : block L most a out = .ok (1, a1, out1, b)) : r = .ok (a1, out1, bs ++ [b]) := by
  cases F with
  | zero => omega
  | succ F => simp only [blocks, e, if_pos] at h; exact h.symm
theorem blocks_go {last a1 : Nat} {out1 : List UInt8} {b : Blk} (hF : 0 < F) (h : blocks L most F a out bs = r) (e : block L most a out = .ok (last, a1, out1, b)) (hl : last ≠ 1) : ∃ F', F = F' + 1 ∧ blocks L most F' a1 out1 (bs ++ [b]) = r := by
  cases F with
  | zero => omega
  | succ F => simp only [blocks, e, if_neg hl] at h; exact ⟨F, rfl, h⟩
end
/-- a text of bytes, and how many there may be -/
noncomputable def infl (s : ByteArray) (most : Int) : Except Nat (List UInt8 × Nat × List Blk) :=
  if most < 0 ∨ 300000 < most ∨ 300000 < s.size then .error 1 else inf s.data.toList most.toNat
end Inf
end Go.Proofs.YtnhbjgmfbcedaaaDoor
namespace Go.Proofs.YtnhbjgmfbcedaaaDoor
open Go.RowKit
set_option linter.unusedSimpArgs false
namespace Inf
theorem get_end {L : List UInt8} {k a n a' : Nat} (h : get L k a = .ok (n, a')) : a' ≤ 8 * L.length := by have := get_ok h; omega
theorem smalls_end {L : List UInt8} : ∀ (r i a : Nat) (f f' : Nat → Int) (a' : Nat), a ≤ 8 * L.length → smalls L r i a f = .ok (f', a') → a' ≤ 8 * L.length := by
  intro r
  induction r with
  | zero => intro i a f f' a' ha h; injection h with h; injection h with h1 h2; omega
  | succ r ih =>
    intro i a f f' a' ha h
    simp only [smalls] at h
    split at h
    · cases h
    · rename_i x a2 hg
      exact ih _ _ _ _ _ (get_end hg) h
theorem rep_end {L : List UInt8} {k a t w a' : Nat} {l : List Nat} (ha : a ≤ 8 * L.length) (h : rep L k a l = .ok (t, w, a')) : a' ≤ 8 * L.length := by
  unfold rep at h
  split at h
  · split at h
    · cases h
    · split at h
      · cases h
      · rename_i x a2 hg
        have := get_end hg
        injection h with h; injection h with _ h; injection h with _ h; omega
  · split at h
    · split at h
      · cases h
      · rename_i x a2 hg
        have := get_end hg
        injection h with h; injection h with _ h; injection h with _ h; omega
    · split at h
      · split at h
        · cases h
        · rename_i x a2 hg
          have := get_end hg
          injection h with h; injection h with _ h; injection h with _ h; omega
      · injection h with h; injection h with _ h; injection h with _ h; omega
theorem lens_end {L : List UInt8} {f : Nat → Int} {want : Nat} : ∀ (F a : Nat) (l l' : List Nat) (a' : Nat), a ≤ 8 * L.length → lens L f want F a l = .ok (l', a') → a' ≤ 8 * L.length := by
  intro F
  induction F with
  | zero => intro a l l' a' _ h; cases h
  | succ F ih =>
    intro a l l' a' ha h
    simp only [lens] at h
    split at h
    · injection h with h; injection h with h1 h2; omega
    · split at h
      · cases h
      · rename_i k a1 hn
        have h1 := (nxt_le hn).2.1
        split at h
        · cases h
        · rename_i t w a2 hr
          have h2 := rep_end h1 hr
          split at h
          · cases h
          · exact ih _ _ _ _ h2 h
theorem dyn_end {L : List UInt8} {a a' : Nat} {l d : List Nat} (h : dyn L a = .ok (l, d, a')) : a' ≤ 8 * L.length := by
  unfold dyn at h
  split at h
  · cases h
  · rename_i m a1 h1
    split at h
    · cases h
    · rename_i r a2 h2
      split at h
      · cases h
      · rename_i w a3 h3
        split at h
        · cases h
        · split at h
          · cases h
          · rename_i f a4 h4
            split at h
            · cases h
            · split at h
              · cases h
              · rename_i l0 a5 h5
                split at h
                · cases h
                · split at h
                  · cases h
                  · split at h
                    · cases h
                    · have q4 := smalls_end _ _ _ _ _ _ (get_end h3) h4
                      have q5 := lens_end _ _ _ _ _ q4 h5
                      injection h with h; injection h with _ h; injection h with _ h
                      omega
theorem tok_end {L : List UInt8} {most : Nat} {g : Nat → Int} {gen k a a' : Nat} {out out' : List UInt8} {e : Ev} (ha : a ≤ 8 * L.length) (h : tok L most g gen k a out = .ok (a', out', e)) : a' ≤ 8 * L.length := by
  unfold tok at h
  split at h
  · split at h
    · injection h with h; injection h with h1 h; omega
    · cases h
  · split at h
    · cases h
    · split at h
      · cases h
      · rename_i x a2 hx
        split at h
        · cases h
        · rename_i d a3 hd
          unfold far at h
          split at h
          · cases h
          · split at h
            · cases h
            · rename_i y a4 hy
              have h3 := get_end hy
              split at h
              · cases h
              · split at h
                · cases h
                · injection h with h; injection h with e1 h; omega
theorem toks_end {L : List UInt8} {most : Nat} {f g : Nat → Int} {len gen : Nat} : ∀ (F a : Nat) (out : List UInt8) (tr : List Ev) (a' : Nat) (out' : List UInt8) (tr' : List Ev), toks L most f len g gen F a out tr = .ok (a', out', tr') → a' ≤ 8 * L.length ∧ tr'.length + a ≤ a' + tr.length := by
  intro F
  induction F with
  | zero => intro a out tr a' out' tr' h; cases h
  | succ F ih =>
    intro a out tr a' out' tr' h
    simp only [toks] at h
    split at h
    · cases h
    · rename_i k a1 hn
      obtain ⟨h1, h2, -⟩ := nxt_le hn
      split at h
      · injection h with h; injection h with e1 h; injection h with e2 e3
        subst e1 e2 e3; rw [List.length_append]; exact ⟨h2, by simp; omega⟩
      · split at h
        · cases h
        · rename_i a2 out2 e ht
          have q1 := ih _ _ _ _ _ _ h
          have q2 := (tok_grow ht).1
          rw [List.length_append] at q1
          simp at q1
          omega
theorem stored_end {L : List UInt8} {most a a' : Nat} {out out' : List UInt8} (h : stored L most a out = .ok (a', out')) : a' ≤ 8 * L.length := by
  unfold stored at h
  split at h
  · cases h
  · split at h
    · cases h
    · split at h
      · cases h
      · split at h
        · cases h
        · split at h
          · cases h
          · injection h with h; injection h with e1 e2; omega
section
variable {L : List UInt8} {most a a1 a2 last : Nat} {out : List UInt8}
theorem block_e1 {c : Nat} (h1 : get L 1 a = .error c) : block L most a out = .error c := by unfold block; simp only [h1]
theorem block_e2 {c : Nat} (h1 : get L 1 a = .ok (last, a1)) (h2 : get L 2 a1 = .error c) : block L most a out = .error c := by unfold block; simp only [h1, h2]
theorem block_ste {c : Nat} (h1 : get L 1 a = .ok (last, a1)) (h2 : get L 2 a1 = .ok (0, a2)) (h3 : stored L most a2 out = .error c) : block L most a out = .error c := by unfold block; simp only [h1, h2, if_pos, h3]
theorem block_sto {a3 : Nat} {out3 : List UInt8} (h1 : get L 1 a = .ok (last, a1)) (h2 : get L 2 a1 = .ok (0, a2)) (h3 : stored L most a2 out = .ok (a3, out3)) : block L most a out = .ok (last, a3, out3, ⟨0, [], [], []⟩) := by unfold block; simp only [h1, h2, if_pos, h3]
theorem block_fxe {c : Nat} (h1 : get L 1 a = .ok (last, a1)) (h2 : get L 2 a1 = .ok (1, a2)) (h3 : toks L most fixF 288 fiveF 32 (8 * L.length + 1) a2 out [] = .error c) : block L most a out = .error c := by unfold block; simp only [h1, h2, if_neg (show ¬ (1 : Nat) = 0 by decide), if_pos, h3]
theorem block_fxo {a3 : Nat} {out3 : List UInt8} {tr : List Ev} (h1 : get L 1 a = .ok (last, a1)) (h2 : get L 2 a1 = .ok (1, a2)) (h3 : toks L most fixF 288 fiveF 32 (8 * L.length + 1) a2 out [] = .ok (a3, out3, tr)) : block L most a out = .ok (last, a3, out3, ⟨1, [], [], tr⟩) := by unfold block; simp only [h1, h2, if_neg (show ¬ (1 : Nat) = 0 by decide), if_pos, h3]
theorem block_de {c : Nat} (h1 : get L 1 a = .ok (last, a1)) (h2 : get L 2 a1 = .ok (2, a2)) (h3 : dyn L a2 = .error c) : block L most a out = .error c := by
  unfold block; simp only [h1, h2, if_neg (show ¬ (2 : Nat) = 0 by decide), if_neg (show ¬ (2 : Nat) = 1 by decide), if_pos, h3]
theorem block_dye {c : Nat} {l d : List Nat} {a3 : Nat} (h1 : get L 1 a = .ok (last, a1)) (h2 : get L 2 a1 = .ok (2, a2)) (h3 : dyn L a2 = .ok (l, d, a3)) (h4 : toks L most (fn l) l.length (fn d) d.length (8 * L.length + 1) a3 out [] = .error c) : block L most a out = .error c := by
  unfold block; simp only [h1, h2, if_neg (show ¬ (2 : Nat) = 0 by decide), if_neg (show ¬ (2 : Nat) = 1 by decide), if_pos, h3, h4]
theorem block_dyo {l d : List Nat} {a3 a4 : Nat} {out4 : List UInt8} {tr : List Ev} (h1 : get L 1 a = .ok (last, a1)) (h2 : get L 2 a1 = .ok (2, a2)) (h3 : dyn L a2 = .ok (l, d, a3)) (h4 : toks L most (fn l) l.length (fn d) d.length (8 * L.length + 1) a3 out [] = .ok (a4, out4, tr)) : block L most a out = .ok (last, a4, out4, ⟨2, l, d, tr⟩) := by
  unfold block; simp only [h1, h2, if_neg (show ¬ (2 : Nat) = 0 by decide), if_neg (show ¬ (2 : Nat) = 1 by decide), if_pos, h3, h4]
theorem block_no {kind : Nat} (h1 : get L 1 a = .ok (last, a1)) (h2 : get L 2 a1 = .ok (kind, a2)) (h3 : 3 ≤ kind) : block L most a out = .error 0 := by
  unfold block; simp only [h1, h2, if_neg (show ¬ kind = 0 by omega), if_neg (show ¬ kind = 1 by omega), if_neg (show ¬ kind = 2 by omega)]
end
end Inf
end Go.Proofs.YtnhbjgmfbcedaaaDoor
namespace Go.Proofs.YtnhbjgmfbcedaaaDoor
open Go.RowKit
set_option linter.unusedSimpArgs false
theorem numcat (l m : List UInt8) : Crc.num (l ++ m) = Crc.num l + Crc.num m * 2 ^ (8 * l.length) := by
  induction l with
  | nil => simp [Crc.num]
  | cons b l ih =>
    show b.toNat + 256 * Crc.num (l ++ m) = b.toNat + 256 * Crc.num l + _
    rw [ih, List.length_cons, show 8 * (l.length + 1) = 8 * l.length + 8 by omega, Nat.pow_add, Nat.mul_add, ← Nat.add_assoc]
    congr 1
    rw [Nat.mul_comm 256, Nat.mul_assoc]
theorem num_behind (l m : List UInt8) : Crc.num (l ++ m) / 2 ^ (8 * l.length) = Crc.num m := by
  have h := Crc.num_lt l
  rw [numcat, Nat.add_mul_div_right _ _ (Nat.two_pow_pos _), Nat.div_eq_of_lt h, Nat.zero_add]
namespace Sto
/-- a stored block -/
def blk (last : Nat) (p : List UInt8) : List UInt8 := [UInt8.ofNat last, UInt8.ofNat (p.length % 256), UInt8.ofNat (p.length / 256), UInt8.ofNat (255 - p.length % 256), UInt8.ofNat (255 - p.length / 256)] ++ p
theorem blk_length (last : Nat) (p : List UInt8) : (blk last p).length = 5 + p.length := by simp [blk]; omega
/-- a text in stored blocks -/
def all : Nat → List UInt8 → List UInt8
  | 0, _ => []
  | k + 1, t => if t.length ≤ 65535 then blk 1 t else blk 0 (t.take 65535) ++ all k (t.drop 65535)
theorem all_last {k : Nat} {t : List UInt8} (h : t.length ≤ 65535) : all (k + 1) t = blk 1 t := by simp only [all, if_pos h]
theorem all_more {k : Nat} {t : List UInt8} (h : ¬ t.length ≤ 65535) : all (k + 1) t = blk 0 (t.take 65535) ++ all k (t.drop 65535) := by simp only [all, if_neg h]
theorem get_at (pre M : List UInt8) (j k : Nat) (h : 8 * pre.length + j + k ≤ 8 * (pre ++ M).length) : Inf.get (pre ++ M) k (8 * pre.length + j) = .ok (Crc.num M / 2 ^ j % 2 ^ k, 8 * pre.length + j + k) := by
  unfold Inf.get
  rw [if_pos h, Nat.pow_add, ← Nat.div_div_eq_div_mul, num_behind]
theorem ofNat_toNat (n : Nat) (h : n < 256) : (UInt8.ofNat n).toNat = n := by rw [UInt8.toNat_ofNat', Nat.mod_eq_of_lt h]
/-- a stored block is read -/
theorem block_is (pre p post : List UInt8) (last most : Nat) (out : List UInt8) (hl : last < 2) (hp : p.length ≤ 65535) (hm : out.length + p.length ≤ most) :
    Inf.block (pre ++ (blk last p ++ post)) most (8 * pre.length) out = .ok (last, 8 * (pre ++ blk last p).length, out ++ p, ⟨0, [], [], []⟩) := by
  obtain ⟨n, hn⟩ : ∃ n, p.length = n := ⟨_, rfl⟩
  obtain ⟨L, hL⟩ : ∃ L, pre ++ (blk last p ++ post) = L := ⟨_, rfl⟩
  have hLl : L.length = pre.length + (5 + n + post.length) := by rw [← hL, List.length_append, List.length_append, blk_length, hn]
  have hM : Crc.num (blk last p ++ post) = last + 256 * (n % 256 + 256 * (n / 256 + 256 * ((255 - n % 256) + 256 * ((255 - n / 256) + 256 * Crc.num (p ++ post))))) := by
    unfold blk
    rw [hn]
    simp only [List.cons_append, List.nil_append, Crc.num]
    rw [ofNat_toNat _ (by omega), ofNat_toNat _ (by omega), ofNat_toNat _ (by omega), ofNat_toNat _ (by omega), ofNat_toNat _ (by omega)]
  obtain ⟨z, hz⟩ : ∃ z, Crc.num (p ++ post) = z := ⟨_, rfl⟩
  rw [hz] at hM
  have g := fun j k h => get_at pre (blk last p ++ post) j k h
  rw [hL, hLl, hM] at g
  have g1 := g 0 1 (by omega)
  have g2 := g 1 2 (by omega)
  have g3 := g 8 16 (by omega)
  have g4 := g 24 16 (by omega)
  rw [show (last + 256 * (n % 256 + 256 * (n / 256 + 256 * ((255 - n % 256) + 256 * ((255 - n / 256) + 256 * z))))) / 2 ^ 0 % 2 ^ 1 = last by omega] at g1
  rw [show (last + 256 * (n % 256 + 256 * (n / 256 + 256 * ((255 - n % 256) + 256 * ((255 - n / 256) + 256 * z))))) / 2 ^ 1 % 2 ^ 2 = 0 by omega] at g2
  rw [show (last + 256 * (n % 256 + 256 * (n / 256 + 256 * ((255 - n % 256) + 256 * ((255 - n / 256) + 256 * z))))) / 2 ^ 8 % 2 ^ 16 = n by omega] at g3
  have five : ∀ a b c y u z : Nat, a < 256 → b < 256 → c < 256 → y < 256 → u < 256 → (a + 256 * (b + 256 * (c + 256 * (y + 256 * (u + 256 * z))))) / 2 ^ 24 % 2 ^ 16 = y + 256 * u := by intros; omega
  rw [five _ _ _ _ _ _ (by omega) (by omega) (by omega) (by omega) (by omega), show 255 - n % 256 + 256 * (255 - n / 256) = 65535 - n by omega] at g4
  have hs : Inf.stored L most (8 * pre.length + 1 + 2) out = .ok (8 * (pre ++ blk last p).length, out ++ p) := by
    unfold Inf.stored
    rw [show (8 * pre.length + 1 + 2 + 7) / 8 * 8 = 8 * pre.length + 8 by omega, g3]
    simp only []
    rw [show 8 * pre.length + 8 + 16 = 8 * pre.length + 24 by omega, g4]
    simp only []
    rw [if_neg (by omega), if_neg (by omega), if_neg (by omega)]
    have e1 : 8 * pre.length + 24 + 16 + 8 * n = 8 * (pre ++ blk last p).length := by rw [List.length_append, blk_length, hn]; omega
    have e2 : (L.drop ((8 * pre.length + 24 + 16) / 8)).take n = p := by
      rw [show (8 * pre.length + 24 + 16) / 8 = pre.length + 5 by omega, ← hL, ← List.drop_drop, List.drop_left]
      unfold blk
      simp only [List.cons_append, List.nil_append, List.drop_succ_cons, List.drop_zero]
      rw [← hn, List.take_left]
    rw [e1, e2]
  rw [Nat.add_zero] at g1
  rw [hL]
  exact Inf.block_sto g1 g2 hs
theorem blocks_all (most : Nat) : ∀ (k : Nat) (pre t out : List UInt8) (F : Nat) (bl : List Inf.Blk), t.length < k → out.length + t.length ≤ most → 8 * (pre ++ all k t).length - 8 * pre.length < F →
    ∃ bl', Inf.blocks (pre ++ all k t) most F (8 * pre.length) out bl = .ok (8 * (pre ++ all k t).length, out ++ t, bl') := by
  intro k
  induction k with
  | zero => intro pre t out F bl h; omega
  | succ k ih =>
    intro pre t out F bl hk hm hF
    by_cases h : t.length ≤ 65535
    · rw [all_last h] at hF ⊢
      have hb := block_is pre t [] 1 most out (by decide) h hm
      rw [List.append_nil] at hb
      exact ⟨_, Inf.blocks_last (by omega) rfl hb⟩
    · rw [all_more h] at hF ⊢
      have hl : (t.take 65535).length = 65535 := by rw [List.length_take]; omega
      have hd : (t.drop 65535).length = t.length - 65535 := List.length_drop
      have hb := block_is pre (t.take 65535) (all k (t.drop 65535)) 0 most out (by decide) (by omega) (by omega)
      obtain ⟨F', hF', h1⟩ := Inf.blocks_go (L := pre ++ (blk 0 (t.take 65535) ++ all k (t.drop 65535))) (F := F) (by
        have : 0 < (blk 0 (t.take 65535)).length := by rw [blk_length]; omega
        simp only [List.length_append] at hF; omega) rfl hb (by decide)
      rw [← h1]
      have e : pre ++ (blk 0 (t.take 65535) ++ all k (t.drop 65535)) = (pre ++ blk 0 (t.take 65535)) ++ all k (t.drop 65535) := by rw [List.append_assoc]
      rw [e] at hF ⊢
      obtain ⟨bl', h2⟩ := ih (pre ++ blk 0 (t.take 65535)) (t.drop 65535) (out ++ t.take 65535) F' (bl ++ [⟨0, [], [], []⟩]) (by omega) (by rw [List.length_append]; omega) (by
        have : 0 < (blk 0 (t.take 65535)).length := by rw [blk_length]; omega
        simp only [List.length_append] at hF ⊢; omega)
      refine ⟨bl', ?_⟩
      rw [h2, show out ++ t.take 65535 ++ t.drop 65535 = out ++ t by rw [List.append_assoc, List.take_append_drop]]
/-- a text in stored blocks means it -/
theorem inf_all (t : List UInt8) (most : Nat) (hm : t.length ≤ most) : ∃ bl, Inf.inf (all (t.length + 1) t) most = .ok (t, (all (t.length + 1) t).length, bl) := by
  obtain ⟨bl, h⟩ := blocks_all most (t.length + 1) [] t [] (8 * (all (t.length + 1) t).length + 1) [] (by omega) (by simpa using hm) (by simp)
  refine ⟨bl, ?_⟩
  unfold Inf.inf
  simp only [List.nil_append, List.length_nil, Nat.mul_zero] at h
  rw [h]
  simp only []
  rw [show (8 * (all (t.length + 1) t).length + 7) / 8 = (all (t.length + 1) t).length by omega]
theorem all_length : ∀ (k : Nat) (t : List UInt8), (all k t).length ≤ t.length + 5 * (t.length / 65535 + 1) := by
  intro k
  induction k with
  | zero => intro t; simp [all]
  | succ k ih =>
    intro t
    by_cases h : t.length ≤ 65535
    · rw [all_last h, blk_length]; omega
    · rw [all_more h, List.length_append, blk_length, List.length_take]
      have := ih (t.drop 65535)
      rw [List.length_drop] at this
      omega
end Sto
end Go.Proofs.YtnhbjgmfbcedaaaDoor
namespace Go.Proofs.YtnhbjgmfbcedaaaDoor
open Go.RowKit
set_option linter.unusedSimpArgs false
set_option maxRecDepth 100000
set_option maxHeartbeats 1000000 in
theorem bytes_calls (B o n V : Nat) (v : Value) (s : ByteArray) (w : World) (hW : WAt w B o v V n) (h8 : n % 8 = 0) (hn : n + 8 * s.size < 1099511627776) :
    Calls Tryd.prog 74 #[.pointer (some ⟨B, o, none⟩), .string s] w fun e w' => e = .returned (.tuple #[]) ∧ ∃ v', WAt w' B o v' (V + Crc.num s.data.toList * 2 ^ n) (n + 8 * s.size) ∧ WStep w w' B o v v' := by
  obtain ⟨i0, hi0, hz0, hz1, hz2⟩ := info_parts u8inf
  have HA := Lib.hid (align_calls B o n V v w hW (by omega))
  rw [show (n + 7) / 8 * 8 = n by omega] at HA
  clear hW
  go_enter Tryd.func74, Tryd.ntmps74
  go_wp2_with fail
  refine HA.out.mono ?_
  rintro e w2 ⟨rfl, hW2, hS2⟩
  obtain ⟨c0, c1, f0, f1, ⟨l, hl, hV, hown⟩, hap, hlt⟩ := hW2
  obtain ⟨N, hN⟩ : ∃ N, l.length = N := ⟨_, rfl⟩
  have hlN := hN
  rw [hN] at hown hl
  obtain ⟨x, c, rfl⟩ := lit_row hown
  have HO := Lib.hid hown
  have HN := Lib.hid hN
  have HV := Lib.hid hV
  have HS2 := Lib.hid hS2
  have HP := Lib.hid (And.intro hap hlt)
  have hB : B < w2.heap.size := World.block_lt_of_cell? w2 _ c0
  have HB := Lib.hid hB
  have H8 := Lib.hid h8
  have HL := Lib.hid hl
  have hNb : N ≤ 140737488355328 := by omega
  have hSb : N + s.size ≤ 140737488355328 := by omega
  have F0 := Lib.hid f0
  have F1 := Lib.hid f1
  have C1 := Lib.hid c1
  clear hown hN hlN hV hS2 hap hlt hl h8 HA
  go_wp2_with (at_builtin; refine wpList_app_string rfl _ _ 61 9 rfl 0 5 i0 Tryd.underlying61 Tryd.underlying9 hi0 hz0 hz1 hz2 _ _ _ rfl HO.out s rfl ?c3 ?c4 (Nat.zero_le _) ?_)
  case c3 => unfold maxLen; omega
  case c4 => omega
  intro v8 w8 hown hgrow hat
  obtain ⟨x8, c8, rfl⟩ := lit_row hown
  have K : Keeps (fun k => (Value.slice x N c).ownBlock = some k) w2 w8 := Keeps.grown hgrow
  have nB : ¬ (Value.slice x N c).ownBlock = some B := HP.out.1
  have k0 : w8.cell? ⟨B, o, none⟩ = some (.slice x N c) := (K.cell (p := ⟨B, o, none⟩) HB.out nB).trans c0
  have k1 : w8.cell? ⟨B, o + 1, none⟩ = some (.int .i64 (n : Int)) := (K.cell (p := ⟨B, o + 1, none⟩) HB.out nB).trans c1
  have g0 : w8.frozen? ⟨B, o, none⟩ = false := (K.frozen (p := ⟨B, o, none⟩) HB.out nB).trans f0
  have g1 : w8.frozen? ⟨B, o + 1, none⟩ = false := (K.frozen (p := ⟨B, o + 1, none⟩) HB.out nB).trans f1
  have nB8 : (Value.slice x8 (N + s.size) c8).ownBlock ≠ some B := by
    rcases hat with q | q
    · rw [q]; exact nB
    · rw [q]; intro e; injection e with e; have := HB.out; omega
  have hnew : ∀ k, (Value.slice x8 (N + s.size) c8).ownBlock = some k → (Value.slice x N c).ownBlock = some k ∨ w2.heap.size ≤ k := by
    intro k hk
    rcases hat with q | q
    · rw [q] at hk; exact .inl hk
    · rw [q] at hk; injection hk with hk; exact .inr (by omega)
  have a3 : (⟨B, o + 1, none⟩ : Addr) ≠ ⟨B, o, none⟩ := by intro e; injection e with _ e2; omega
  have e8 : (8 : Int) * ((N + s.size : Nat) : Int) = ((n + 8 * s.size : Nat) : Int) := by have := HL.out; have := H8.out; omega
  have HF : Hid (WAt ((w8.setCell ⟨B, o, none⟩ (.slice x8 (N + s.size) c8)).setCell ⟨B, o + 1, none⟩ (.int .i64 ((8 : Int) * ((N + s.size : Nat) : Int)))) B o (.slice x8 (N + s.size) c8) (V + Crc.num s.data.toList * 2 ^ n) (n + 8 * s.size) ∧ WStep w2 ((w8.setCell ⟨B, o, none⟩ (.slice x8 (N + s.size) c8)).setCell ⟨B, o + 1, none⟩ (.int .i64 ((8 : Int) * ((N + s.size : Nat) : Int)))) B o (.slice x N c) (.slice x8 (N + s.size) c8)) := Lib.hid (by
    rw [e8]
    have hl8 : (l ++ s.data.toList).length = N + s.size := by rw [List.length_append, HN.out]; rfl
    have e1 : 2 ^ n = 2 ^ (8 * l.length) := by rw [HN.out, HL.out]; congr 1; have := H8.out; omega
    have hnum : Crc.num (l ++ s.data.toList) = V + Crc.num s.data.toList * 2 ^ n := by rw [numcat, HV.out, e1]
    refine ⟨⟨?_, ?_, ?_, ?_, ⟨l ++ s.data.toList, by rw [hl8]; have := HL.out; have := H8.out; omega, hnum, ?_⟩, nB8, ?_⟩, ⟨?_, ?_, ?_, hnew⟩⟩
    · exact (World.cell?_setCell_other _ _ _ _ a3).trans (World.cell?_setCell_same _ _ _ k0)
    · exact World.cell?_setCell_same _ _ _ ((World.cell?_setCell_other _ _ _ _ (fun e => a3 e.symm)).trans k1)
    · rw [World.frozen?_setCell, World.frozen?_setCell]; exact g0
    · rw [World.frozen?_setCell, World.frozen?_setCell]; exact g1
    · rw [hl8, show bytesV (l ++ s.data.toList) = bytesV l ++ Lib.strCells s by rw [strCells_eq]; simp [bytesV]]
      exact ownsRow_setCell_other (ownsRow_setCell_other hown nB8 _) nB8 _
    · rw [← hnum]
      have h := Crc.num_lt (l ++ s.data.toList)
      rw [hl8] at h
      rw [show n + 8 * s.size = 8 * (N + s.size) by have := HL.out; have := H8.out; omega]
      exact h
    · exact ((K.mono (fun _ _ q => .inr q)).setCell (p := ⟨B, o, none⟩) (.inl (.inl rfl)) _).setCell (p := ⟨B, o + 1, none⟩) (.inl (.inl rfl)) _
    · intro j h1 h2
      have b0 : (⟨B, o, none⟩ : Addr) ≠ ⟨B, j, none⟩ := by intro e; injection e with _ e2; exact h1 e2.symm
      have b1 : (⟨B, o + 1, none⟩ : Addr) ≠ ⟨B, j, none⟩ := by intro e; injection e with _ e2; exact h2 e2.symm
      exact ((World.cell?_setCell_other _ _ _ _ b1).trans (World.cell?_setCell_other _ _ _ _ b0)).trans (K.cell (p := ⟨B, j, none⟩) HB.out nB)
    · intro j
      rw [World.frozen?_setCell, World.frozen?_setCell]
      exact K.frozen (p := ⟨B, j, none⟩) HB.out nB)
  clear hown hgrow hat K nB nB8 hnew e8 c0 c1 f0 f1
  go_wp2_with fail
  go_end0
  exact ⟨rfl, _, HF.out.1, HS2.out.trans HF.out.2⟩
end Go.Proofs.YtnhbjgmfbcedaaaDoor
namespace Go.Proofs.YtnhbjgmfbcedaaaDoor
open Go.RowKit
set_option linter.unusedSimpArgs false
namespace Inf
theorem tok_most {L : List UInt8} {m m' : Nat} {g : Nat → Int} {gen k a a' : Nat} {out out' : List UInt8} {e : Ev} (h : tok L m g gen k a out = .ok (a', out', e)) :
    (out'.length ≤ m' → tok L m' g gen k a out = .ok (a', out', e)) ∧ (out.length ≤ m' → m' < out'.length → tok L m' g gen k a out = .error 1) := by
  unfold tok at h ⊢
  split at h
  · rename_i hk
    rw [if_pos hk]
    split at h
    · injection h with h; injection h with h1 h; injection h with h2 h3
      subst h1 h2 h3
      simp only [List.length_append, List.length_singleton]
      exact ⟨fun q => by rw [if_pos (by omega)], fun q1 q2 => by rw [if_neg (by omega)]⟩
    · cases h
  · rename_i hk
    rw [if_neg hk]
    split at h
    · cases h
    · rename_i hk2
      rw [if_neg hk2]
      split at h
      · cases h
      · rename_i x a2 hx
        (try simp only [hx])
        split at h
        · cases h
        · rename_i d a3 hd
          (try simp only [hd])
          unfold far at h ⊢
          split at h
          · cases h
          · rename_i hd3
            rw [if_neg hd3]
            split at h
            · cases h
            · rename_i y a4 hy
              (try simp only [hy])
              split at h
              · cases h
              · rename_i hb
                rw [if_neg hb]
                split at h
                · cases h
                · injection h with h; injection h with e1 h; injection h with e2 e3
                  subst e1 e2 e3
                  rw [copyL_length]
                  exact ⟨fun q => by rw [if_neg (by omega)], fun q1 q2 => by rw [if_pos (by omega)]⟩
theorem toks_most {L : List UInt8} {m m' : Nat} {f g : Nat → Int} {len gen : Nat} : ∀ (F a : Nat) (out : List UInt8) (tr : List Ev) (a' : Nat) (out' : List UInt8) (tr' : List Ev), toks L m f len g gen F a out tr = .ok (a', out', tr') →
    out.length ≤ out'.length ∧ (out'.length ≤ m' → toks L m' f len g gen F a out tr = .ok (a', out', tr')) ∧ (out.length ≤ m' → m' < out'.length → toks L m' f len g gen F a out tr = .error 1) := by
  intro F
  induction F with
  | zero => intro a out tr a' out' tr' h; cases h
  | succ F ih =>
    intro a out tr a' out' tr' h
    simp only [toks] at h ⊢
    split at h
    · cases h
    · rename_i k a1 hn
      split at h
      · rename_i hk
        injection h with h; injection h with e1 h; injection h with e2 e3
        subst e1 e2 e3
        simp only [if_pos hk]
        exact ⟨Nat.le_refl _, fun _ => trivial, fun q1 q2 => by omega⟩
      · rename_i hk
        simp only [if_neg hk]
        split at h
        · cases h
        · rename_i a2 out2 e ht
          have hg := tok_grow ht
          obtain ⟨i1, i2, i3⟩ := ih _ _ _ _ _ _ h
          refine ⟨by omega, fun q => ?_, fun q1 q2 => ?_⟩
          · rw [(tok_most ht).1 (by omega)]; exact i2 q
          · by_cases hm : out2.length ≤ m'
            · rw [(tok_most ht).1 hm]; exact i3 hm q2
            · rw [(tok_most ht).2 q1 (by omega)]
theorem toks_le {L : List UInt8} {m : Nat} {f g : Nat → Int} {len gen : Nat} : ∀ (F a : Nat) (out : List UInt8) (tr : List Ev) (a' : Nat) (out' : List UInt8) (tr' : List Ev), toks L m f len g gen F a out tr = .ok (a', out', tr') → a' ≤ 8 * L.length := by
  intro F
  induction F with
  | zero => intro a out tr a' out' tr' h; cases h
  | succ F ih =>
    intro a out tr a' out' tr' h
    simp only [toks] at h
    split at h
    · cases h
    · rename_i k a1 hn
      split at h
      · injection h with h; injection h with e1 h
        subst e1; exact (nxt_le hn).2.1
      · split at h
        · cases h
        · exact ih _ _ _ _ _ _ h
theorem stored_most {L : List UInt8} {m m' a a' : Nat} {out out' : List UInt8} (h : stored L m a out = .ok (a', out')) :
    a' ≤ 8 * L.length ∧ out.length ≤ out'.length ∧ (out'.length ≤ m' → stored L m' a out = .ok (a', out')) ∧ (out.length ≤ m' → m' < out'.length → stored L m' a out = .error 1) := by
  unfold stored at h ⊢
  split at h
  · cases h
  · rename_i n a2 h1
    (try simp only [h1])
    split at h
    · cases h
    · rename_i k a3 h2
      (try simp only [h2])
      split at h
      · cases h
      · rename_i hx
        rw [if_neg hx]
        split at h
        · cases h
        · rename_i hb
          rw [if_neg hb]
          split at h
          · cases h
          · injection h with h; injection h with e1 e2
            have q1 := get_ok h1
            have q2 := get_ok h2
            have hl : ((L.drop (a3 / 8)).take n).length = n := by rw [List.length_take, List.length_drop]; omega
            subst e1 e2
            rw [List.length_append, hl]
            exact ⟨by omega, by omega, fun q => by rw [if_neg (by omega)], fun q1 q2 => by rw [if_pos (by omega)]⟩
theorem block_most {L : List UInt8} {m m' a last a' : Nat} {out out' : List UInt8} {b : Blk} (h : block L m a out = .ok (last, a', out', b)) :
    a' ≤ 8 * L.length ∧ out.length ≤ out'.length ∧ (out'.length ≤ m' → block L m' a out = .ok (last, a', out', b)) ∧ (out.length ≤ m' → m' < out'.length → block L m' a out = .error 1) := by
  unfold block at h ⊢
  split at h
  · cases h
  · rename_i la a1 h1
    (try simp only [h1])
    split at h
    · cases h
    · rename_i kind a2 h2
      (try simp only [h2])
      split at h
      · rename_i hk
        simp only [if_pos hk]
        split at h
        · cases h
        · rename_i a3 o3 h3
          obtain ⟨i0, i1, i2, i3⟩ := stored_most (m' := m') h3
          injection h with h; injection h with e0 h; injection h with e1 h; injection h with e2 e3
          subst e0 e1 e2 e3
          exact ⟨i0, i1, fun q => by rw [i2 q], fun q1 q2 => by rw [i3 q1 q2]⟩
      · rename_i hk
        simp only [if_neg hk]
        split at h
        · rename_i hk1
          simp only [if_pos hk1]
          split at h
          · cases h
          · rename_i a3 o3 tr h3
            obtain ⟨i1, i2, i3⟩ := toks_most (m' := m') _ _ _ _ _ _ _ h3
            have i0 := toks_le _ _ _ _ _ _ _ h3
            injection h with h; injection h with e0 h; injection h with e1 h; injection h with e2 e3
            subst e0 e1 e2 e3
            exact ⟨i0, i1, fun q => by rw [i2 q], fun q1 q2 => by rw [i3 q1 q2]⟩
        · rename_i hk1
          simp only [if_neg hk1]
          split at h
          · rename_i hk2
            simp only [if_pos hk2]
            split at h
            · cases h
            · rename_i l r a3 h3
              (try simp only [h3])
              split at h
              · cases h
              · rename_i a4 o4 tr h4
                obtain ⟨i1, i2, i3⟩ := toks_most (m' := m') _ _ _ _ _ _ _ h4
                have i0 := toks_le _ _ _ _ _ _ _ h4
                injection h with h; injection h with e0 h; injection h with e1 h; injection h with e2 e3
                subst e0 e1 e2 e3
                exact ⟨i0, i1, fun q => by rw [i2 q], fun q1 q2 => by rw [i3 q1 q2]⟩
          · cases h
theorem blocks_most {L : List UInt8} {m m' : Nat} : ∀ (F a : Nat) (out : List UInt8) (bs : List Blk) (a' : Nat) (out' : List UInt8) (bs' : List Blk), blocks L m F a out bs = .ok (a', out', bs') →
    a' ≤ 8 * L.length ∧ out.length ≤ out'.length ∧ (out'.length ≤ m' → blocks L m' F a out bs = .ok (a', out', bs')) ∧ (out.length ≤ m' → m' < out'.length → blocks L m' F a out bs = .error 1) := by
  intro F
  induction F with
  | zero => intro a out bs a' out' bs' h; cases h
  | succ F ih =>
    intro a out bs a' out' bs' h
    simp only [blocks] at h ⊢
    split at h
    · cases h
    · rename_i last a1 out1 b hb
      obtain ⟨j0, j1, j2, j3⟩ := block_most (m' := m') hb
      split at h
      · rename_i hl
        injection h with h; injection h with e1 h; injection h with e2 e3
        subst e1 e2 e3
        exact ⟨j0, j1, fun q => by rw [j2 q]; simp only [if_pos hl], fun q1 q2 => by rw [j3 q1 q2]⟩
      · rename_i hl
        obtain ⟨i0, i1, i2, i3⟩ := ih _ _ _ _ _ _ h
        refine ⟨i0, by omega, fun q => ?_, fun q1 q2 => ?_⟩
        · rw [j2 (by omega)]; simp only [if_neg hl]; exact i2 q
        · by_cases hm : out1.length ≤ m'
          · rw [j2 hm]; simp only [if_neg hl]; exact i3 hm q2
          · rw [j3 q1 (by omega)]
theorem blocks_grow {L : List UInt8} {m : Nat} : ∀ (F a : Nat) (out : List UInt8) (bs : List Blk) (a' : Nat) (out' : List UInt8) (bs' : List Blk), out.length ≤ m → blocks L m F a out bs = .ok (a', out', bs') → out'.length ≤ m := by
  intro F
  induction F with
  | zero => intro a out bs a' out' bs' _ h; cases h
  | succ F ih =>
    intro a out bs a' out' bs' ho h
    simp only [blocks] at h
    split at h
    · cases h
    · rename_i last a1 out1 b hb
      have := block_grow ho hb
      split at h
      · injection h with h; injection h with e1 h; injection h with e2 e3
        subst e2; exact this.2
      · exact ih _ _ _ _ _ _ this.2 h
/-- what is told with so many bytes allowed is told with as many as it has; with fewer it is not -/
theorem infl_most {s : ByteArray} {most : Int} {out : List UInt8} {used : Nat} {bs : List Blk} (h : infl s most = .ok (out, used, bs)) :
    (out.length : Int) ≤ most ∧ used ≤ s.size ∧ infl s (out.length : Int) = .ok (out, used, bs) ∧ (0 < out.length → infl s ((out.length : Int) - 1) = .error 1) := by
  unfold infl at h
  split at h
  · cases h
  · rename_i hb
    obtain ⟨m, rfl⟩ : ∃ m : Nat, most = m := ⟨most.toNat, by omega⟩
    rw [Int.toNat_natCast] at h
    unfold inf at h
    split at h
    · cases h
    · rename_i a o b hbl
      injection h with h; injection h with e1 h; injection h with e2 e3
      subst e1 e2 e3
      have hg := blocks_grow _ _ _ _ _ _ _ (Nat.zero_le _) hbl
      refine ⟨by omega, ?_, ?_, fun hp => ?_⟩
      · have := (blocks_most (m' := m) _ _ _ _ _ _ _ hbl).1
        rw [list_size] at this; omega
      · unfold infl
        rw [if_neg (by omega), Int.toNat_natCast]
        unfold inf
        rw [(blocks_most _ _ _ _ _ _ _ hbl).2.2.1 (Nat.le_refl _)]
      · unfold infl
        rw [if_neg (by omega), show ((o.length : Int) - 1).toNat = o.length - 1 by omega]
        unfold inf
        rw [(blocks_most _ _ _ _ _ _ _ hbl).2.2.2 (Nat.zero_le _) (by omega)]
theorem infl_bd {s : ByteArray} {most : Int} {q : List UInt8 × Nat × List Blk} (h : infl s most = .ok q) : 0 ≤ most ∧ most ≤ 300000 ∧ s.size ≤ 300000 := by
  unfold infl at h
  split at h
  · cases h
  · omega
theorem get_e {L : List UInt8} {k a c : Nat} (h : get L k a = .error c) : c < 2 := by have := (get_error h).1; omega
theorem nxt_e {L : List UInt8} {f : Nat → Int} {len a c : Nat} (h : nxt L f len a = .error c) : c < 2 := by have := nxt_error h; omega
theorem err_e {α : Type} {c k : Nat} (h : (Except.error k : Except Nat α) = .error c) (hk : k < 2) : c < 2 := by injection h with h; omega
theorem tok_e {L : List UInt8} {m : Nat} {g : Nat → Int} {gen k a c : Nat} {out : List UInt8} (h : tok L m g gen k a out = .error c) : c < 2 := by
  unfold tok at h
  split at h
  · split at h
    · cases h
    · exact err_e h (by omega)
  · split at h
    · exact err_e h (by omega)
    · split at h
      · rename_i hx; exact err_e h (get_e hx)
      · split at h
        · rename_i hx; exact err_e h (nxt_e hx)
        · unfold far at h
          split at h
          · exact err_e h (by omega)
          · split at h
            · rename_i hx; exact err_e h (get_e hx)
            · split at h
              · exact err_e h (by omega)
              · split at h
                · exact err_e h (by omega)
                · cases h
theorem toks_e {L : List UInt8} {m : Nat} {f g : Nat → Int} {len gen c : Nat} : ∀ (F a : Nat) (out : List UInt8) (tr : List Ev), toks L m f len g gen F a out tr = .error c → c < 2 := by
  intro F
  induction F with
  | zero => intro a out tr h; exact err_e h (by omega)
  | succ F ih =>
    intro a out tr h
    simp only [toks] at h
    split at h
    · rename_i hx; exact err_e h (nxt_e hx)
    · split at h
      · cases h
      · split at h
        · rename_i hx; exact err_e h (tok_e hx)
        · exact ih _ _ _ h
theorem stored_e {L : List UInt8} {m a c : Nat} {out : List UInt8} (h : stored L m a out = .error c) : c < 2 := by
  unfold stored at h
  split at h
  · rename_i hx; exact err_e h (get_e hx)
  · split at h
    · rename_i hx; exact err_e h (get_e hx)
    · split at h
      · exact err_e h (by omega)
      · split at h
        · exact err_e h (by omega)
        · split at h
          · exact err_e h (by omega)
          · cases h
theorem smalls_e {L : List UInt8} {c : Nat} : ∀ (r i a : Nat) (f : Nat → Int), smalls L r i a f = .error c → c < 2 := by
  intro r
  induction r with
  | zero => intro i a f h; cases h
  | succ r ih =>
    intro i a f h
    simp only [smalls] at h
    split at h
    · rename_i hx; exact err_e h (get_e hx)
    · exact ih _ _ _ h
theorem rep_e {L : List UInt8} {k a c : Nat} {l : List Nat} (h : rep L k a l = .error c) : c < 2 := by
  unfold rep at h
  split at h
  · split at h
    · exact err_e h (by omega)
    · split at h
      · rename_i hx; exact err_e h (get_e hx)
      · cases h
  · split at h
    · split at h
      · rename_i hx; exact err_e h (get_e hx)
      · cases h
    · split at h
      · split at h
        · rename_i hx; exact err_e h (get_e hx)
        · cases h
      · cases h
theorem lens_e {L : List UInt8} {f : Nat → Int} {want c : Nat} : ∀ (F a : Nat) (l : List Nat), lens L f want F a l = .error c → c < 2 := by
  intro F
  induction F with
  | zero => intro a l h; exact err_e h (by omega)
  | succ F ih =>
    intro a l h
    simp only [lens] at h
    split at h
    · cases h
    · split at h
      · rename_i hx; exact err_e h (nxt_e hx)
      · split at h
        · rename_i hx; exact err_e h (rep_e hx)
        · split at h
          · exact err_e h (by omega)
          · exact ih _ _ h
theorem dyn_e {L : List UInt8} {a c : Nat} (h : dyn L a = .error c) : c < 2 := by
  unfold dyn at h
  split at h
  · rename_i hx; exact err_e h (get_e hx)
  · split at h
    · rename_i hx; exact err_e h (get_e hx)
    · split at h
      · rename_i hx; exact err_e h (get_e hx)
      · split at h
        · exact err_e h (by omega)
        · split at h
          · rename_i hx; exact err_e h (smalls_e _ _ _ _ hx)
          · split at h
            · exact err_e h (by omega)
            · split at h
              · rename_i hx; exact err_e h (lens_e _ _ _ hx)
              · split at h
                · exact err_e h (by omega)
                · split at h
                  · exact err_e h (by omega)
                  · split at h
                    · exact err_e h (by omega)
                    · cases h
theorem block_e {L : List UInt8} {m a c : Nat} {out : List UInt8} (h : block L m a out = .error c) : c < 2 := by
  unfold block at h
  split at h
  · rename_i hx; exact err_e h (get_e hx)
  · split at h
    · rename_i hx; exact err_e h (get_e hx)
    · split at h
      · split at h
        · rename_i hx; exact err_e h (stored_e hx)
        · cases h
      · split at h
        · split at h
          · rename_i hx; exact err_e h (toks_e _ _ _ _ hx)
          · cases h
        · split at h
          · split at h
            · rename_i hx; exact err_e h (dyn_e hx)
            · split at h
              · rename_i hx; exact err_e h (toks_e _ _ _ _ hx)
              · cases h
          · exact err_e h (by omega)
theorem blocks_e {L : List UInt8} {m c : Nat} : ∀ (F a : Nat) (out : List UInt8) (bs : List Blk), blocks L m F a out bs = .error c → c < 2 := by
  intro F
  induction F with
  | zero => intro a out bs h; exact err_e h (by omega)
  | succ F ih =>
    intro a out bs h
    simp only [blocks] at h
    split at h
    · rename_i hx; exact err_e h (block_e hx)
    · split at h
      · cases h
      · exact ih _ _ _ h
theorem infl_err {s : ByteArray} {most : Int} {c : Nat} (h : infl s most = .error c) : c < 2 := by
  unfold infl at h
  split at h
  · exact err_e h (by omega)
  · unfold inf at h
    split at h
    · rename_i hx; exact err_e h (blocks_e _ _ _ _ hx)
    · cases h
end Inf
end Go.Proofs.YtnhbjgmfbcedaaaDoor
namespace Go.Proofs.YtnhbjgmfbcedaaaDoor
open Go.RowKit
set_option linter.unusedSimpArgs false
set_option maxRecDepth 100000
theorem xor16 (n : Nat) (h : n < 65536) : bits BinOp.xor IntKind.u32 (n : Int) 65535 = ((65535 - n : Nat) : Int) := by
  rw [show (65535 : Int) = ((65535 : Nat) : Int) from rfl, u32_xor_nat n 65535 (by omega) (by decide), xor_ones n h]
theorem num_blk (done p : List UInt8) (last : Nat) (hl : last < 2) (hp : p.length ≤ 65535) : Crc.num done + last * 2 ^ (8 * done.length) + p.length * 2 ^ (8 * (done.length + 1)) + (65535 - p.length) * 2 ^ (8 * (done.length + 1) + 16) + Crc.num p * 2 ^ (8 * (done.length + 1) + 16 + 16) = Crc.num (done ++ Sto.blk last p) := by
  rw [numcat]
  have hM : Crc.num (Sto.blk last p) = last + 256 * (p.length % 256 + 256 * (p.length / 256 + 256 * ((255 - p.length % 256) + 256 * ((255 - p.length / 256) + 256 * Crc.num p)))) := by
    unfold Sto.blk
    simp only [List.cons_append, List.nil_append, Crc.num]
    rw [Sto.ofNat_toNat _ (by omega), Sto.ofNat_toNat _ (by omega), Sto.ofNat_toNat _ (by omega), Sto.ofNat_toNat _ (by omega), Sto.ofNat_toNat _ (by omega)]
  rw [hM]
  obtain ⟨X, hX⟩ : ∃ X, 2 ^ (8 * done.length) = X := ⟨_, rfl⟩
  have e1 : 2 ^ (8 * (done.length + 1)) = X * 256 := by rw [← hX, Nat.mul_add, Nat.pow_add]
  have e2 : 2 ^ (8 * (done.length + 1) + 16) = X * 16777216 := by rw [Nat.pow_add, e1, Nat.mul_assoc]
  have e3 : 2 ^ (8 * (done.length + 1) + 16 + 16) = X * 1099511627776 := by rw [Nat.pow_add, e2, Nat.mul_assoc]
  rw [hX, e1, e2, e3]
  obtain ⟨n, hn⟩ : ∃ n, p.length = n := ⟨_, rfl⟩
  rw [hn] at hp ⊢
  generalize Crc.num p = z
  generalize Crc.num done = q
  have e4 : last + 256 * (n % 256 + 256 * (n / 256 + 256 * ((255 - n % 256) + 256 * ((255 - n / 256) + 256 * z)))) = last + n * 256 + (65535 - n) * 16777216 + z * 1099511627776 := by omega
  rw [e4]
  simp only [Nat.add_mul, Nat.mul_comm X, Nat.mul_assoc, Nat.add_assoc]
structure StoGo (w0 wr : World) (B : Nat) (v : Value) (done : List UInt8) : Prop where
  at_ : WAt wr B 0 v (Crc.num done) (8 * done.length)
  ext : Ext w0 wr
  nb : w0.heap.size ≤ B
  nv : ∀ k, v.ownBlock = some k → w0.heap.size ≤ k
theorem StoGo.step {w0 wr w' : World} {B : Nat} {v v' : Value} (he : Ext w0 wr) (hb : w0.heap.size ≤ B) (hv : ∀ k, v.ownBlock = some k → w0.heap.size ≤ k) (hs : WStep wr w' B 0 v v') : Ext w0 w' ∧ ∀ k, v'.ownBlock = some k → w0.heap.size ≤ k := by
  refine ⟨Below.trans he (hs.keeps.below he.size (fun k hk q => ?_)), fun k q => ?_⟩
  · rcases q with q | q
    · omega
    · have := hv k q; omega
  · rcases hs.new k q with r | r
    · exact hv k r
    · have := he.size; omega
set_option linter.unusedSimpArgs false in
set_option maxHeartbeats 4000000 in
theorem stored_calls (t : ByteArray) (w : World) (ht : t.size ≤ 300000) :
    Calls Tryd.prog 32 #[.string t] w fun e w' => e = .returned (.string (tb (Sto.all (t.size + 1) t.data.toList))) ∧ Ext w w' := by
  obtain ⟨A, hA⟩ : ∃ A, Sto.all (t.size + 1) t.data.toList = A := ⟨_, rfl⟩
  rw [hA]
  have hAl : A.length ≤ 300100 := by rw [← hA]; have := Sto.all_length (t.size + 1) t.data.toList; rw [list_size] at this; omega
  have HA := Lib.hid hA
  clear hA
  go_enter Tryd.func32, Tryd.ntmps32
  go_upto_block 0 with fail
  obtain ⟨B, hB⟩ : ∃ B, w.heap.size = B := ⟨_, rfl⟩
  refine wp_world (fun wz => Hid (StoGo w wz B (.slice none 0 0) [])) (Lib.hid ⟨⟨?_, ?_, ?_, ?_, ⟨[], rfl, rfl, World.ownsRow_nil _ _ _ _⟩, (by intro e; cases e), by simp [Crc.num]⟩, (Ext.refl w).alloc _, by omega, fun k q => by cases q⟩) ?_
  · subst hB; exact World.cell?_alloc_at _ _ _ _ rfl
  · subst hB; exact World.cell?_alloc_at _ _ _ _ rfl
  · subst hB; exact World.frozen?_alloc_at _ _ _ _ rfl
  · subst hB; exact World.frozen?_alloc_at _ _ _ _ rfl
  rw [hB]
  have HBB := Lib.hid hB
  clear hB
  rintro w1 HS
  go_wp2_with fail
  go_loopw [0] (fun y wr => ∃ (R : ByteArray) (done : List UInt8) (k : Nat) (v : Value), y = .string R ∧ R.size ≤ t.size ∧ Hid (done ++ Sto.all k R.data.toList = A) ∧ Hid (R.size < k) ∧ Hid (StoGo w wr B v done)) (fun y _ => match y with | .string R => R.size | _ => 0)
  case atStart => exact ⟨t, [], t.size + 1, _, rfl, Nat.le_refl _, Lib.hid (by rw [List.nil_append]; exact HA.out), Lib.hid (Nat.lt_succ_self _), HS⟩
  case round =>
    clear HS HA
    obtain ⟨R, done, k, v, rfl, hRt, HD, HK, HS⟩ := hrel
    obtain ⟨d, hd⟩ : ∃ d, done.length = d := ⟨_, rfl⟩
    have hdb : d ≤ 300100 := by have := congrArg List.length HD.out; rw [List.length_append] at this; omega
    have HDl := Lib.hid hd
    have HAt := Lib.hid HS.out.at_
    rw [hd] at HAt
    have HE := Lib.hid HS.out.ext
    have HNB := Lib.hid HS.out.nb
    have HNV := Lib.hid HS.out.nv
    obtain ⟨V, hV⟩ : ∃ V, Crc.num done = V := ⟨_, rfl⟩
    rw [hV] at HAt
    have HV := Lib.hid hV
    obtain ⟨k, rfl⟩ : ∃ j, k = j + 1 := ⟨k - 1, by have := HK.out; omega⟩
    clear HS hd hV
    by_cases h6 : R.size ≤ 65535
    · obtain ⟨n, hn⟩ : ∃ n, R.size = n := ⟨_, rfl⟩
      have HNn := Lib.hid hn
      have t1 : ((n : Int) == (R.size : Int)) = true := beq_iff_eq.2 (by omega)
      have HDA : Hid (done ++ Sto.blk 1 R.data.toList = A) := Lib.hid (by rw [← HD.out, Sto.all_last (by rw [list_size]; exact h6)])
      have hnR : n ≤ R.size := by omega
      have hnRI : (n : Int) ≤ (R.size : Int) := by omega
      have hn0 : (0 : Int) ≤ (n : Int) := by omega
      have hnt : ((n : Nat) : Int).toNat = n := by omega
      have hmn : (if (R.size : Int) < 65535 then (R.size : Int) else 65535) = (n : Int) := by split <;> omega
      have hn6 : n < 65536 := by omega
      have wn : ∀ z, z = (n : Int) → IntKind.u32.wrap z = z := by rintro _ rfl; unfold IntKind.wrap; simp [IntKind.bits, IntKind.signed]; omega
      have hkm : (n : Int) % 4294967296 = (n : Int) := by omega
      have hxo := xor16 n hn6
      obtain ⟨y, hy⟩ : ∃ y, 65535 - n = y := ⟨_, rfl⟩
      rw [hy] at hxo
      have HY := Lib.hid hy
      have hy6 : y < 65536 := by omega
      clear hy
      (try clear hn)
      go_wp2_with fail
      refine (put_in B 0 (8 * d) V 1 3 _ _ HAt.out (by decide) (by decide) (by omega)).mono ?_
      rintro e w2 ⟨rfl, v2, h2, s2⟩
      have HAt2 := Lib.hid h2
      obtain ⟨q1, q2⟩ := StoGo.step HE.out HNB.out HNV.out s2
      have HE2 := Lib.hid q1
      have HNV2 := Lib.hid q2
      clear h2 s2 q1 q2 HAt HE HNV
      go_wp2_with fail
      refine (align_calls B 0 _ _ _ _ HAt2.out (by omega)).mono ?_
      rintro e w3 ⟨rfl, h3, s3⟩
      rw [show (8 * d + 3 + 7) / 8 * 8 = 8 * (d + 1) by omega] at h3
      have HAt3 := Lib.hid h3
      obtain ⟨q1, q2⟩ := StoGo.step HE2.out HNB.out HNV2.out s3
      have HE3 := Lib.hid q1
      have HNV3 := Lib.hid q2
      clear h3 s3 q1 q2 HAt2 HE2 HNV2
      go_wp2_with fail
      refine (put_in B 0 _ _ n 16 _ _ HAt3.out (by decide) (by omega) (by omega)).mono ?_
      rintro e w4 ⟨rfl, v4, h4, s4⟩
      have HAt4 := Lib.hid h4
      obtain ⟨q1, q2⟩ := StoGo.step HE3.out HNB.out HNV3.out s4
      have HE4 := Lib.hid q1
      have HNV4 := Lib.hid q2
      clear h4 s4 q1 q2 HAt3 HE3 HNV3
      go_wp2_with fail
      refine (put_in B 0 _ _ y 16 _ _ HAt4.out (by decide) (by omega) (by omega)).mono ?_
      rintro e w5 ⟨rfl, v5, h5, s5⟩
      have HAt5 := Lib.hid h5
      obtain ⟨q1, q2⟩ := StoGo.step HE4.out HNB.out HNV4.out s5
      have HE5 := Lib.hid q1
      have HNV5 := Lib.hid q2
      clear h5 s5 q1 q2 HAt4 HE4 HNV4 wn hkm hxo
      obtain ⟨P, hP⟩ : ∃ P, R.extract 0 n = P := ⟨_, rfl⟩
      have hPs : P.size = n := by rw [← hP]; simp; omega
      have hPl : P.data.toList = R.data.toList.take n := by rw [← hP, ex_list]; simp
      have HPl := Lib.hid hPl
      have HPs := Lib.hid hPs
      have hb5 : 8 * (d + 1) + 16 + 16 + 8 * P.size < 1099511627776 := by omega
      clear hPl hPs
      go_wp2_with fail
      (try rw [hP])
      refine (bytes_calls B 0 _ _ _ P _ HAt5.out (by omega) hb5).mono ?_
      rintro e w6 ⟨rfl, v6, h6x, s6⟩
      clear hP
      have HF : Hid (StoGo w w6 B v6 (done ++ Sto.blk 1 P.data.toList)) := Lib.hid (by
        obtain ⟨q1, q2⟩ := StoGo.step HE5.out HNB.out HNV5.out s6
        refine ⟨?_, q1, HNB.out, q2⟩
        have hpl : P.data.toList.length = n := by rw [list_size]; exact HPs.out
        have e1 := num_blk done P.data.toList 1 (by decide) (by omega)
        rw [HDl.out, HV.out, hpl, HY.out] at e1
        rw [← e1, List.length_append, HDl.out, Sto.blk_length, hpl, show 8 * (d + (5 + n)) = 8 * (d + 1) + 16 + 16 + 8 * n by omega]
        rw [HPs.out] at h6x
        exact h6x)
      clear h6x s6 HAt5 HE5 HNV5
      have HPR : Hid (P.data.toList = R.data.toList) := Lib.hid (by rw [HPl.out, List.take_of_length_le (by rw [list_size, HNn.out]; exact Nat.le_refl _)])
      have hE : R.extract n R.size = ⟨#[]⟩ := by rw [HNn.out]; apply bts_ext; rw [ex_list]; simp
      go_wp2_with fail
      refine (text_calls B 0 _ _ _ _ HF.out.at_).mono ?_
      rintro e w7 ⟨⟨l, hl, hV, rfl⟩, h7⟩
      subst h7
      have hlA : l = A := by
        have e1 : l = done ++ Sto.blk 1 P.data.toList := Crc.num_inj _ _ (by rw [hl]; omega) hV
        rw [e1, HPR.out, HDA.out]
      subst hlA
      go_wp2_with fail
      go_ret
      refine ⟨?_, HF.out.ext⟩
      rw [tb_eq]
      rfl
    · have t1 : ((65535 : Int) == (R.size : Int)) = false := beq_eq_false_iff_ne.2 (by omega)
      obtain ⟨n, hn⟩ : ∃ n, n = 65535 := ⟨_, rfl⟩
      have HN := Lib.hid hn
      have hnI : (65535 : Int) = (n : Int) := by omega
      rw [hnI] at t1
      have HDA : Hid (done ++ (Sto.blk 0 (R.data.toList.take n) ++ Sto.all k (R.data.toList.drop n)) = A) := Lib.hid (by rw [← HD.out, Sto.all_more (by rw [list_size]; exact h6), hn])
      clear hnI
      have hnR : n ≤ R.size := by omega
      have hnRI : (n : Int) ≤ (R.size : Int) := by omega
      have hn0 : (0 : Int) ≤ (n : Int) := by omega
      have hnt : ((n : Nat) : Int).toNat = n := by omega
      have hmn : (if (R.size : Int) < 65535 then (R.size : Int) else 65535) = (n : Int) := by split <;> omega
      have hn6 : n < 65536 := by omega
      have wn : ∀ z, z = (n : Int) → IntKind.u32.wrap z = z := by rintro _ rfl; unfold IntKind.wrap; simp [IntKind.bits, IntKind.signed]; omega
      have hkm : (n : Int) % 4294967296 = (n : Int) := by omega
      have hxo := xor16 n hn6
      obtain ⟨y, hy⟩ : ∃ y, 65535 - n = y := ⟨_, rfl⟩
      rw [hy] at hxo
      have HY := Lib.hid hy
      have hy6 : y < 65536 := by omega
      clear hy
      (try clear hn)
      go_wp2_with fail
      refine (put_in B 0 (8 * d) V 0 3 _ _ HAt.out (by decide) (by decide) (by omega)).mono ?_
      rintro e w2 ⟨rfl, v2, h2, s2⟩
      have HAt2 := Lib.hid h2
      obtain ⟨q1, q2⟩ := StoGo.step HE.out HNB.out HNV.out s2
      have HE2 := Lib.hid q1
      have HNV2 := Lib.hid q2
      clear h2 s2 q1 q2 HAt HE HNV
      go_wp2_with fail
      refine (align_calls B 0 _ _ _ _ HAt2.out (by omega)).mono ?_
      rintro e w3 ⟨rfl, h3, s3⟩
      rw [show (8 * d + 3 + 7) / 8 * 8 = 8 * (d + 1) by omega] at h3
      have HAt3 := Lib.hid h3
      obtain ⟨q1, q2⟩ := StoGo.step HE2.out HNB.out HNV2.out s3
      have HE3 := Lib.hid q1
      have HNV3 := Lib.hid q2
      clear h3 s3 q1 q2 HAt2 HE2 HNV2
      go_wp2_with fail
      refine (put_in B 0 _ _ n 16 _ _ HAt3.out (by decide) (by omega) (by omega)).mono ?_
      rintro e w4 ⟨rfl, v4, h4, s4⟩
      have HAt4 := Lib.hid h4
      obtain ⟨q1, q2⟩ := StoGo.step HE3.out HNB.out HNV3.out s4
      have HE4 := Lib.hid q1
      have HNV4 := Lib.hid q2
      clear h4 s4 q1 q2 HAt3 HE3 HNV3
      go_wp2_with fail
      refine (put_in B 0 _ _ y 16 _ _ HAt4.out (by decide) (by omega) (by omega)).mono ?_
      rintro e w5 ⟨rfl, v5, h5, s5⟩
      have HAt5 := Lib.hid h5
      obtain ⟨q1, q2⟩ := StoGo.step HE4.out HNB.out HNV4.out s5
      have HE5 := Lib.hid q1
      have HNV5 := Lib.hid q2
      clear h5 s5 q1 q2 HAt4 HE4 HNV4 wn hkm hxo
      obtain ⟨P, hP⟩ : ∃ P, R.extract 0 n = P := ⟨_, rfl⟩
      have hPs : P.size = n := by rw [← hP]; simp; omega
      have hPl : P.data.toList = R.data.toList.take n := by rw [← hP, ex_list]; simp
      have HPl := Lib.hid hPl
      have HPs := Lib.hid hPs
      have hb5 : 8 * (d + 1) + 16 + 16 + 8 * P.size < 1099511627776 := by omega
      clear hPl hPs
      go_wp2_with fail
      (try rw [hP])
      refine (bytes_calls B 0 _ _ _ P _ HAt5.out (by omega) hb5).mono ?_
      rintro e w6 ⟨rfl, v6, h6x, s6⟩
      clear hP
      have HF : Hid (StoGo w w6 B v6 (done ++ Sto.blk 0 P.data.toList)) := Lib.hid (by
        obtain ⟨q1, q2⟩ := StoGo.step HE5.out HNB.out HNV5.out s6
        refine ⟨?_, q1, HNB.out, q2⟩
        have hpl : P.data.toList.length = n := by rw [list_size]; exact HPs.out
        have e1 := num_blk done P.data.toList 0 (by decide) (by omega)
        rw [HDl.out, HV.out, hpl, HY.out] at e1
        rw [← e1, List.length_append, HDl.out, Sto.blk_length, hpl, show 8 * (d + (5 + n)) = 8 * (d + 1) + 16 + 16 + 8 * n by omega]
        rw [HPs.out] at h6x
        exact h6x)
      clear h6x s6 HAt5 HE5 HNV5
      obtain ⟨S, hS⟩ : ∃ S, R.extract n R.size = S := ⟨_, rfl⟩
      have hSs : S.size = R.size - n := by rw [← hS]; simp
      have hSl : S.data.toList = R.data.toList.drop n := by rw [← hS, ex_list, List.take_of_length_le (by rw [List.length_drop, list_size]; omega)]
      have hne : S.toList.isEmpty = false := emp_no S (by omega)
      have HSl := Lib.hid hSl
      have HSs := Lib.hid hSs
      clear hSl hSs
      go_wp2_with fail
      go_roundw
      case rel => exact ⟨S, done ++ Sto.blk 0 P.data.toList, k, _, rfl, by have := HSs.out; omega, Lib.hid (by rw [List.append_assoc, HPl.out, HSl.out]; exact HDA.out), Lib.hid (by have := HSs.out; have := HK.out; have := HN.out; omega), HF⟩
      case measure => show S.size < R.size; have := HSs.out; have := HN.out; omega
theorem Stored_calls (t : ByteArray) (w : World) (ht : t.size ≤ 300000) :
    Calls Tryd.prog 12 #[.string t] w fun e w' => e = .returned (.tuple #[.string (tb (Sto.all (t.size + 1) t.data.toList)), .nilIface]) ∧ Ext w w' := by
  have HS := Lib.hid (fun w => stored_calls t w ht)
  have t1 : decide ((300000 : Int) < (t.size : Int)) = false := decide_eq_false (by omega)
  have n1 : ¬ 300000 < t.size := by omega
  go_enter Tryd.func12, Tryd.ntmps12
  go_wp2_with fail
  refine (HS.out _).mono ?_
  rintro e w2 ⟨rfl, h2⟩
  go_wp2_with fail
  go_ret2
  exact ⟨rfl, h2⟩
theorem blank_calls (w : World) : Calls Tryd.prog 11 #[] w fun e w' => e = .returned (.bool true) ∧ Ext w w' := by
  have HS := Lib.hid (fun w => Stored_calls ⟨#[]⟩ w (by decide))
  have e1 : tb (Sto.all ((⟨#[]⟩ : ByteArray).size + 1) (⟨#[]⟩ : ByteArray).data.toList) = ⟨#[1, 0, 0, 255, 255]⟩ := by rw [tb_eq]; rfl
  rw [e1] at HS
  clear e1
  go_enter Tryd.func11, Tryd.ntmps11
  go_wp2_with fail
  refine (HS.out _).mono ?_
  rintro e w2 ⟨rfl, h2⟩
  go_wp2_with fail
  go_ret
  exact ⟨rfl, h2⟩
end Go.Proofs.YtnhbjgmfbcedaaaDoor
namespace Go.Proofs.YtnhbjgmfbcedaaaDoor
open Go.RowKit
set_option linter.unusedSimpArgs false
set_option maxRecDepth 100000
theorem byte_any (k : Nat) (hk : k < 256) (w : World) : Calls Tryd.prog 33 #[.int .i64 (k : Int)] w fun e w' => e = .returned (.string ⟨#[UInt8.ofNat k]⟩) ∧ Ext w w' := by
  have hcr : (convert 61 9 (.slice (some ⟨w.heap.size, 0, none⟩) 1 1)).run Tryd.prog (w.alloc (.cells #[.int .u8 (k : Int)] 5)) = .ok (.string ⟨#[UInt8.ofNat k]⟩) (w.alloc (.cells #[.int .u8 (k : Int)] 5)) := by
    refine run_convert_bytes_back (P := Tryd.prog) (w.alloc (.cells #[.int .u8 (k : Int)] 5)) 61 9 5 ⟨w.heap.size, 0, none⟩ 1 [UInt8.ofNat k] Tryd.underlying61 Tryd.underlying5 Tryd.underlying9 (fun j hj => ?_)
    obtain rfl : j = 0 := by simpa using hj
    rw [add_plain]; simp; omega
  go_enter Tryd.func33, Tryd.ntmps33
  go_wp2_with fail
  go_ret
  exact ⟨rfl, (Ext.refl _).alloc _⟩
/-- bits as a text -/
@[irreducible] def bs (L : List Bool) : ByteArray := ⟨(Bts.str L).toArray⟩
theorem bs_list (L : List Bool) : (bs L).data.toList = Bts.str L := by unfold bs; rfl
theorem bs_size (L : List Bool) : (bs L).size = L.length := by show (bs L).data.size = _; rw [← Array.length_toList, bs_list, Bts.str_length]
theorem bytes_ext {a b : ByteArray} (h : a.data.toList = b.data.toList) : a = b := by
  obtain ⟨⟨a⟩⟩ := a; obtain ⟨⟨b⟩⟩ := b; simp at h; rw [h]
theorem bytes_cat (a b : ByteArray) : (a ++ b).data.toList = a.data.toList ++ b.data.toList := by simp
theorem bs_append (L M : List Bool) : bs L ++ bs M = bs (L ++ M) := bytes_ext (by rw [bytes_cat, bs_list, bs_list, bs_list, Bts.str_append])
theorem bs_one (b : Bool) : (⟨#[Bts.ch b]⟩ : ByteArray) = bs [b] := bytes_ext (by rw [bs_list]; rfl)
theorem bs_nil : ByteArray.empty = bs [] := bytes_ext (by rw [bs_list]; rfl)
theorem ch_of (y : Nat) : UInt8.ofNat (48 + y % 2) = Bts.ch (y % 2 == 1) := by
  rcases Nat.mod_two_eq_zero_or_one y with h | h <;> rw [h] <;> rfl
theorem bit_any (y : Nat) (w : World) : Calls Tryd.prog 33 #[.int .i64 (48 + (y : Int) % 2)] w fun e w' => e = .returned (.string (bs [y % 2 == 1])) ∧ Ext w w' := by
  have h := byte_any (48 + y % 2) (by omega) w
  rw [ch_of, bs_one] at h
  rw [show (48 + (y : Int) % 2) = ((48 + y % 2 : Nat) : Int) by omega]
  exact h
theorem low_any (x k : Nat) (hx : x < 4294967296) (hk : k ≤ 64) (w : World) : Calls Tryd.prog 62 #[.int .u32 (x : Int), .int .i64 (k : Int)] w fun e w' => e = .returned (.string (bs (Bts.low x k))) ∧ Ext w w' := by
  go_enter Tryd.func62, Tryd.ntmps62
  go_wp2_with fail
  rw [show ({ data := #[] } : ByteArray) = bs [] from bs_nil]
  go_loopw [0, 5, 6] (fun p o c wr => ∃ i : Nat, i ≤ k ∧ c = .int .i64 i ∧ p = .int .u32 ((x / 2 ^ i : Nat) : Int) ∧ o = .string (bs (Bts.low x i)) ∧ Hid (Ext w wr)) (fun _ _ c _ => k - (intOf c).toNat)
  case atStart => exact ⟨0, by omega, rfl, by simp, rfl, Lib.hid (Ext.refl w)⟩
  case round =>
    obtain ⟨i, hi, rfl, rfl, rfl, HX⟩ := hrel
    by_cases hlt : i < k
    · obtain ⟨y, hy⟩ : ∃ y, x / 2 ^ i = y := ⟨_, rfl⟩
      have hy2 : x / 2 ^ (i + 1) = y / 2 := by rw [Nat.pow_succ, ← Nat.div_div_eq_div_mul, hy]
      have hyl : y < 4294967296 := by rw [← hy]; exact Nat.lt_of_le_of_lt (Nat.div_le_self _ _) hx
      have HL : Hid (bs (Bts.low x i) ++ bs [y % 2 == 1] = bs (Bts.low x (i + 1))) := Lib.hid (by rw [bs_append, Bts.low, hy])
      have hz1 : (bs (Bts.low x i)).size ≤ 64 := by rw [bs_size, Bts.low_length]; omega
      have hz2 : (bs [y % 2 == 1]).size = 1 := by rw [bs_size]; rfl
      rw [hy]
      have HY2 := Lib.hid hy2
      clear hy hy2
      go_wp2_with fail
      refine (bit_any y _).mono ?_
      rintro e w2 ⟨rfl, hE⟩
      have HX2 := Lib.hid (HX.out.trans hE)
      clear hE
      go_wp2_with fail
      rw [HL.out]
      go_roundw
      case rel => exact ⟨i + 1, by omega, by go_num, by rw [HY2.out]; go_num, rfl, HX2⟩
      case measure => simp [intOf]; omega
    · obtain rfl : i = k := by omega
      go_wp2_with fail
      go_ret
      exact ⟨rfl, HX.out⟩
end Go.Proofs.YtnhbjgmfbcedaaaDoor
