/- What codes of LZW mean: the plain machine. No function of the program is named. -/
import Derived.Test.YtdeiolagnheihaaDoorBlkLaw
namespace Go.Proofs.YtdeiolagnheihaaDoor.Lz
open Go.RowKit
set_option maxRecDepth 100000
def one (i : Nat) : ByteArray := ⟨#[UInt8.ofNat i]⟩
theorem one_size (i : Nat) : (one i).size = 1 := rfl
/-- the word of a code; c: the code that clears -/
def wordOf (c : Nat) (L : List ByteArray) (last : ByteArray) (n : Nat) : Option ByteArray :=
  if n < c then some (one n) else if n < c + 2 + L.length then L[n - (c + 2)]? else if n = c + 2 + L.length ∧ last.size ≠ 0 then some (last ++ last.extract 0 1) else none
def addW (c : Nat) (L : List ByteArray) (last w : ByteArray) : List ByteArray :=
  if last.size ≠ 0 ∧ c + 2 + L.length < 4096 then L ++ [last ++ w.extract 0 1] else L
def sizeW (c : Nat) (L : List ByteArray) (size : Nat) : Nat := if c + 2 + L.length = 2 ^ size ∧ size < 12 then size + 1 else size
inductive Res where
  | text
  | bound
  | ok (out : List UInt8) (used : Nat)
def unl (N len c wd most : Nat) (L : List ByteArray) (size : Nat) (last : ByteArray) (out : List UInt8) (a : Nat) : Res :=
  if _h : len < a + size ∨ size = 0 then .text
  else if N / 2 ^ a % 2 ^ size = c + 1 then .ok out ((a + size + 7) / 8)
  else if N / 2 ^ a % 2 ^ size = c then unl N len c wd most [] (wd + 1) ByteArray.empty out (a + size)
  else match wordOf c L last (N / 2 ^ a % 2 ^ size) with
    | none => .text
    | some w => if most < out.length + w.size then .bound else unl N len c wd most (addW c L last w) (sizeW c (addW c L last w) size) w (out ++ w.data.toList) (a + size)
termination_by len - a
decreasing_by all_goals omega
theorem unl_over {N len c wd most : Nat} {L : List ByteArray} {size : Nat} {last : ByteArray} {out : List UInt8} {a : Nat} (h : len < a + size) : unl N len c wd most L size last out a = .text := by
  rw [unl, dif_pos (.inl h)]
theorem unl_end {N len c wd most : Nat} {L : List ByteArray} {size n : Nat} {last : ByteArray} {out : List UInt8} {a : Nat} (h : a + size ≤ len) (h0 : size ≠ 0) (hn : N / 2 ^ a % 2 ^ size = n) (h1 : n = c + 1) : unl N len c wd most L size last out a = .ok out ((a + size + 7) / 8) := by
  rw [unl, dif_neg (by omega), if_pos (by omega)]
theorem unl_clear {N len c wd most : Nat} {L : List ByteArray} {size n : Nat} {last : ByteArray} {out : List UInt8} {a : Nat} (h : a + size ≤ len) (h0 : size ≠ 0) (hn : N / 2 ^ a % 2 ^ size = n) (h1 : n = c) : unl N len c wd most L size last out a = unl N len c wd most [] (wd + 1) ByteArray.empty out (a + size) := by
  rw [unl, dif_neg (by omega), if_neg (by omega), if_pos (by omega)]
theorem unl_none {N len c wd most : Nat} {L : List ByteArray} {size n : Nat} {last : ByteArray} {out : List UInt8} {a : Nat} (h : a + size ≤ len) (h0 : size ≠ 0) (hn : N / 2 ^ a % 2 ^ size = n) (h1 : n ≠ c) (h2 : n ≠ c + 1) (hw : wordOf c L last n = none) : unl N len c wd most L size last out a = .text := by
  rw [unl, dif_neg (by omega), if_neg (by omega), if_neg (by omega), hn, hw]
theorem unl_bound {N len c wd most : Nat} {L : List ByteArray} {size n : Nat} {last : ByteArray} {out : List UInt8} {a : Nat} {w : ByteArray} (h : a + size ≤ len) (h0 : size ≠ 0) (hn : N / 2 ^ a % 2 ^ size = n) (h1 : n ≠ c) (h2 : n ≠ c + 1) (hw : wordOf c L last n = some w) (hb : most < out.length + w.size) : unl N len c wd most L size last out a = .bound := by
  rw [unl, dif_neg (by omega), if_neg (by omega), if_neg (by omega), hn, hw]
  exact if_pos hb
theorem unl_word {N len c wd most : Nat} {L : List ByteArray} {size n : Nat} {last : ByteArray} {out : List UInt8} {a : Nat} {w : ByteArray} (h : a + size ≤ len) (h0 : size ≠ 0) (hn : N / 2 ^ a % 2 ^ size = n) (h1 : n ≠ c) (h2 : n ≠ c + 1) (hw : wordOf c L last n = some w) (hb : ¬ most < out.length + w.size) :
    unl N len c wd most L size last out a = unl N len c wd most (addW c L last w) (sizeW c (addW c L last w) size) w (out ++ w.data.toList) (a + size) := by
  rw [unl, dif_neg (by omega), if_neg (by omega), if_neg (by omega), hn, hw]
  exact if_neg hb
/-- what holds of the machine at every code -/
structure Ok (c wd most : Nat) (L : List ByteArray) (size : Nat) (last : ByteArray) (out : List UInt8) : Prop where
  pos : ∀ x ∈ L, x.size ≠ 0
  big : ∀ x ∈ L, x.size ≤ most + 1
  len : c + 2 + L.length ≤ 4096
  lo : 3 ≤ size
  hi : size ≤ 12
  last : last.size ≤ out.length
  out : out.length ≤ most
theorem Ok.fresh {c wd most : Nat} {out : List UInt8} (hc : c + 2 ≤ 4096) (hw : 2 ≤ wd) (hw2 : wd ≤ 8) (ho : out.length ≤ most) : Ok c wd most [] (wd + 1) ByteArray.empty out :=
  ⟨by simp, by simp, by simpa using hc, by omega, by omega, by simp, ho⟩
theorem word_pos {c wd most size n : Nat} {L : List ByteArray} {last w : ByteArray} {out : List UInt8} (h : Ok c wd most L size last out) (hw : wordOf c L last n = some w) : w.size ≠ 0 ∧ w.size ≤ most + 1 := by
  unfold wordOf at hw
  split at hw
  · cases hw; rw [one_size]; omega
  · split at hw
    · have := List.mem_of_getElem? hw
      exact ⟨h.pos w this, h.big w this⟩
    · split at hw
      · rename_i h3
        cases hw
        rw [ByteArray.size_append, ByteArray.size_extract]
        have := h.last; have := h.out; omega
      · cases hw
theorem Ok.step {c wd most size n : Nat} {L : List ByteArray} {last w : ByteArray} {out : List UInt8} (h : Ok c wd most L size last out) (hw : wordOf c L last n = some w) (hb : ¬ most < out.length + w.size) :
    Ok c wd most (addW c L last w) (sizeW c (addW c L last w) size) w (out ++ w.data.toList) := by
  obtain ⟨p1, p2⟩ := word_pos h hw
  have hl := h.last
  have ho := h.out
  have h3 := h.lo
  have h4 := h.hi
  have h5 := h.len
  have hx : ∀ x ∈ addW c L last w, x.size ≠ 0 ∧ x.size ≤ most + 1 := by
    intro x hx
    unfold addW at hx
    split at hx
    · rcases List.mem_append.1 hx with hx | hx
      · exact ⟨h.pos x hx, h.big x hx⟩
      · rw [List.mem_singleton.1 hx, ByteArray.size_append, ByteArray.size_extract]; omega
    · exact ⟨h.pos x hx, h.big x hx⟩
  refine ⟨fun x q => (hx x q).1, fun x q => (hx x q).2, ?_, ?_, ?_, ?_, ?_⟩
  · unfold addW; split
    · rw [List.length_append, List.length_singleton]; omega
    · exact h5
  · unfold sizeW; split <;> omega
  · unfold sizeW; split <;> omega
  · rw [List.length_append, list_size]; omega
  · rw [List.length_append, list_size]; omega
end Go.Proofs.YtdeiolagnheihaaDoor.Lz
