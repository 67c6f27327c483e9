/- Tokens: what they mean, as lists; rows of tokens as they lie in memory; a row of bytes that grows. No function of the program is named. -/
import Derived.Test.YtdeiolagnheihaaDoorBox
import Derived.Test.YtdeiolagnheihaaDoorWriter
namespace Go.Proofs.YtdeiolagnheihaaDoor
open Go.RowKit
structure Tk where
  b : UInt8
  l : Int
  d : Int
structure Tk.Ok (t : Tk) : Prop where
  l : -9223372036854775808 ≤ t.l ∧ t.l ≤ 9223372036854775807
  d : -9223372036854775808 ≤ t.d ∧ t.d ≤ 9223372036854775807
/-- a row of tokens, wherever it lies -/
def Toks (w : World) (x : Option Addr) (n : Nat) (tk : Nat → Tk) : Prop :=
  (x = none → n = 0) ∧ ∀ a, x = some a → ∀ i, i < n →
    w.cell? (a.add (i * 3)) = some (.int .u8 ((tk i).b.toNat : Int)) ∧ w.cell? ⟨(a.add (i * 3)).block, (a.add (i * 3)).off + 1, none⟩ = some (.int .i64 (tk i).l) ∧
    w.cell? ⟨(a.add (i * 3)).block, (a.add (i * 3)).off + 2, none⟩ = some (.int .i64 (tk i).d) ∧ (tk i).Ok
theorem add_block3 (a : Addr) (k : Nat) : (a.add k).block = a.block := by unfold Addr.add; split <;> rfl
theorem Toks.keeps {S : Nat → Prop} {w w' : World} {x : Option Addr} {n : Nat} {tk : Nat → Tk} (h : Toks w x n tk) (hk : Keeps S w w') (hS : ∀ a, x = some a → ¬ S a.block) : Toks w' x n tk := by
  refine ⟨h.1, fun a ha i hi => ?_⟩
  obtain ⟨c0, c1, c2, ok⟩ := h.2 a ha i hi
  have hs : ¬ S (a.add (i * 3)).block := by rw [add_block3]; exact hS a ha
  have hl : (a.add (i * 3)).block < w.heap.size := World.block_lt_of_cell? w _ c0
  exact ⟨(hk.cell hl hs).trans c0, (hk.cell (p := ⟨_, _, none⟩) hl hs).trans c1, (hk.cell (p := ⟨_, _, none⟩) hl hs).trans c2, ok⟩
theorem Toks.ext {w w' : World} {x : Option Addr} {n : Nat} {tk : Nat → Tk} (h : Toks w x n tk) (hE : Ext w w') : Toks w' x n tk := h.keeps (S := fun _ => False) hE.keeps (fun _ _ => id)
theorem Toks.isSome {w : World} {x : Option Addr} {n : Nat} {tk : Nat → Tk} (h : Toks w x n tk) {i : Nat} (hi : i < n) : ∃ a, x = some a := by
  cases x with
  | none => have := h.1 rfl; omega
  | some a => exact ⟨a, rfl⟩
/-- the text behind k bytes more, each one from d back -/
def copyL (out : List UInt8) (d : Nat) : Nat → List UInt8
  | 0 => out
  | k + 1 => copyL out d k ++ [(copyL out d k).getD ((copyL out d k).length - d) 0]
theorem copyL_length (out : List UInt8) (d : Nat) : ∀ k, (copyL out d k).length = out.length + k := by
  intro k
  induction k with
  | zero => rfl
  | succ k ih => simp only [copyL, List.length_append, ih]; simp; omega
/-- what tokens mean: a text, or an error's number and place -/
inductive XRes where
  | ok (out : List UInt8)
  | bad (c i : Nat)
def litP (t : Tk) : Prop := t.l = 0 ∧ t.d = 0
def badP (t : Tk) (n : Nat) : Prop := t.b ≠ 0 ∨ t.l < 3 ∨ 258 < t.l ∨ t.d < 1 ∨ 32768 < t.d ∨ (n : Int) < t.d
instance (t : Tk) : Decidable (litP t) := by unfold litP; infer_instance
instance (t : Tk) (n : Nat) : Decidable (badP t n) := by unfold badP; infer_instance
def stepX (t : Tk) (k : Nat) (out : List UInt8) : XRes :=
  if litP t then (if 300000 < out.length + 1 then .bad 1 k else .ok (out ++ [t.b]))
  else if badP t out.length then .bad 2 k
  else if 300000 < out.length + t.l.toNat then .bad 1 k else .ok (copyL out t.d.toNat t.l.toNat)
def expL (tk : Nat → Tk) : Nat → XRes
  | 0 => .ok []
  | k + 1 => match expL tk k with
    | .ok out => stepX (tk k) k out
    | .bad c i => .bad c i
theorem expL_succ {tk : Nat → Tk} {k : Nat} {out : List UInt8} (h : expL tk k = .ok out) : expL tk (k + 1) = stepX (tk k) k out := by
  simp only [expL, h]
theorem expL_more {tk : Nat → Tk} {k c i : Nat} (h : expL tk k = .bad c i) : ∀ d, expL tk (k + d) = .bad c i := by
  intro d
  induction d with
  | zero => exact h
  | succ d ih => show expL tk (k + d + 1) = _; simp only [expL, ih]
theorem expL_bad {tk : Nat → Tk} {n k c : Nat} {out : List UInt8} (h : expL tk k = .ok out) (hs : stepX (tk k) k out = .bad c k) (hk : k < n) : expL tk n = .bad c k := by
  have h1 : expL tk (k + 1) = .bad c k := (expL_succ h).trans hs
  have := expL_more h1 (n - (k + 1))
  rwa [show k + 1 + (n - (k + 1)) = n by omega] at this
theorem stepX_lit {t : Tk} {k : Nat} {out : List UInt8} (h : litP t) (hb : out.length + 1 ≤ 300000) : stepX t k out = .ok (out ++ [t.b]) := by
  unfold stepX; rw [if_pos h, if_neg (by omega)]
theorem stepX_lit_no {t : Tk} {k : Nat} {out : List UInt8} (h : litP t) (hb : 300000 < out.length + 1) : stepX t k out = .bad 1 k := by
  unfold stepX; rw [if_pos h, if_pos hb]
theorem stepX_bad {t : Tk} {k : Nat} {out : List UInt8} (h : ¬ litP t) (hb : badP t out.length) : stepX t k out = .bad 2 k := by
  unfold stepX; rw [if_neg h, if_pos hb]
theorem stepX_copy {t : Tk} {k l d : Nat} {out : List UInt8} (h : ¬ litP t) (h2 : ¬ badP t out.length) (hl : t.l = l) (hd : t.d = d) (hb : out.length + l ≤ 300000) : stepX t k out = .ok (copyL out d l) := by
  unfold stepX; rw [if_neg h, if_neg h2, hl, hd, Int.toNat_natCast, Int.toNat_natCast, if_neg (by omega)]
theorem stepX_copy_no {t : Tk} {k l : Nat} {out : List UInt8} (h : ¬ litP t) (h2 : ¬ badP t out.length) (hl : t.l = l) (hb : 300000 < out.length + l) : stepX t k out = .bad 1 k := by
  unfold stepX; rw [if_neg h, if_neg h2, hl, Int.toNat_natCast, if_pos hb]
theorem stepX_len {t : Tk} {k : Nat} {out o : List UInt8} (h : stepX t k out = .ok o) : o.length ≤ 300000 := by
  unfold stepX at h
  split at h
  · split at h
    · cases h
    · injection h with h; subst h; simp; omega
  · split at h
    · cases h
    · split at h
      · cases h
      · injection h with h; subst h; rw [copyL_length]; omega
theorem expL_len {tk : Nat → Tk} : ∀ {n : Nat} {out : List UInt8}, expL tk n = .ok out → out.length ≤ 300000 := by
  intro n
  induction n with
  | zero => intro out h; injection h with h; subst h; simp
  | succ n ih =>
    intro out h
    simp only [expL] at h
    split at h
    · exact stepX_len h
    · cases h
/-- a row of bytes that grew by one -/
theorem row_push {w0 wr w1 : World} {v v' : Value} {l : List UInt8} {b : UInt8} (hE : Ext w0 wr) (hR : wr.ownsRow w0.heap.size 5 1 v l.length (bytesV l)) (hg : wr.grownBy w1 v.ownBlock)
    (ho : w1.ownsRow w0.heap.size 5 1 v' (l.length + 1) (bytesV l ++ [.int .u8 (b.toNat : Int)])) : w1.ownsRow w0.heap.size 5 1 v' (l ++ [b]).length (bytesV (l ++ [b])) ∧ Ext w0 w1 := by
  refine ⟨?_, Below.trans hE ((Keeps.grown hg).below hE.size (fun k hk e => by have := (hR.lt k e).1; omega))⟩
  have e : bytesV (l ++ [b]) = bytesV l ++ [.int .u8 (b.toNat : Int)] := by simp [bytesV]
  rw [e, List.length_append]
  exact ho
theorem row_conv {w : World} {base : Nat} {v : Value} {l : List UInt8} (h : w.ownsRow base 5 1 v l.length (bytesV l)) : (convert 23 9 v).run Tryd.prog w = .ok (.string ⟨l.toArray⟩) w := by
  rcases ownsRow_slice h with ⟨rfl, h0⟩ | ⟨g, cap, rfl⟩
  · rw [run_convert_bytes_string w 23 9 5 none 0 0 Tryd.underlying23 Tryd.underlying5 Tryd.underlying9, List.eq_nil_of_length_eq_zero h0]; rfl
  · refine run_convert_bytes_back (P := Tryd.prog) w 23 9 5 ⟨g, 0, none⟩ cap l Tryd.underlying23 Tryd.underlying5 Tryd.underlying9 (fun j hj => ?_)
    rw [add_plain, h.cellAt j (by omega), bytesV_get _ j hj]
theorem byteinf : (Tryd.prog.info? 5).map (fun i => (i.zero, i.size, i.bytes)) = some (some (.int .u8 0), 1, 1) := by kernel_rfl
end Go.Proofs.YtdeiolagnheihaaDoor
