/-
  Short names.
  Plain laws of rows sorted by a key: two sorted rows merged (the left one first where keys are alike), and a stable sort out of it.
  Packages, merged (LARMORE and HIRSCHBERG): what the rows hold: no function of the program is named.
  Packages, merged: the lengths that they give are those of a code. No function of the program is named.
  Lengths of a code by packages: what they are. No function of the program is named.
  The best code by trying all shapes, and packages merged: they cost alike. Plain laws. No function of the program is named.
  What the best code costs: plain laws. No function of the program is named.
  Small laws on memory: which blocks a call may have turned. No function of the program is named.
  Rows of cells of whole numbers of one kind: arrays and slices that a call made. No function of the program is named.
-/
import Derived.Outline
import Derived.OrdersHeld
import Derived.WalkKit
import Derived.Test.YtdeiolagnheihaaDoorProg
import Derived.WalkSpells
import Derived.WalkSmall
import Derived.Lib.Hide
import Derived.Deep.QuietTactic
import Derived.BigQuiet
import Derived.RegionTactic
import Derived.WalkLawsBesides
import Derived.Maps.AppendAt
import Derived.Deep.WholeRow
import Derived.Deep.OwnRows
set_option linter.unusedSimpArgs false
set_option linter.unusedVariables false
set_option maxRecDepth 100000
namespace Go.Proofs.YtdeiolagnheihaaDoor
open Go.RowKit
theorem xa {α : Type} : type_of% (@List.getElem_toArray α) := @List.getElem_toArray α
theorem xb {α : Type} : type_of% (@List.getElem_cons_succ α) := @List.getElem_cons_succ α
theorem xc {α : Type} : type_of% (@List.getElem_cons_zero α) := @List.getElem_cons_zero α
theorem xd {α : Type} : type_of% (@List.setIfInBounds_toArray α) := @List.setIfInBounds_toArray α
theorem xe {α : Type} : type_of% (@List.set_cons_zero α) := @List.set_cons_zero α
theorem xf {α : Type} : type_of% (@List.set_cons_succ α) := @List.set_cons_succ α
theorem xg {α : Type} : type_of% (@List.getElem?_toArray α) := @List.getElem?_toArray α
theorem xh {α : Type} : type_of% (@List.getElem?_cons_succ α) := @List.getElem?_cons_succ α
theorem xi {α : Type} : type_of% (@List.getElem?_cons_zero α) := @List.getElem?_cons_zero α
theorem tkH {P : Program} {ops : Array Oper} {Q : Exit → Act → World → Prop} {md : Region.Mode} {S : World → Prop} {oi : Oper} {v : Value} {fuel : Nat} {listed : Array Bool} {a : Act} {w : World} (i : Nat) (hi : ops[i]? = some oi) (hS : S w) (hy : ∀ w, S w → (execOp a.eval oi).run P w = .ok (.value v) w) (h : wpAnyH P md ops Q S fuel (listed.setIfInBounds i true) (a.put oi.dst v) w) (hs : Region.noSelect ops = true := by kernel_rfl) (hf : Region.free md ops listed i = true := by kernel_rfl) (hr : (Region.ready md ops listed).contains i = true := by kernel_rfl) (hQ : ∀ c a w, Q (.panic c) (a.put oi.dst v) w → Q (.panic c) a w := by exact fun _ _ _ h => h) (hg : Region.wanted oi (yielded ops a.tmps) = true := by kernel_rfl) : wpAnyH P md ops Q S (fuel + 1) listed a w :=
  wpAnyH_take hi hs hf hr hQ (.inl ⟨hg, hy⟩) hS h
end Go.Proofs.YtdeiolagnheihaaDoor
namespace Go.Proofs.YtdeiolagnheihaaDoor
namespace Srt
variable {α : Type} (k : α → Int)
/-- sorted rows merged; where keys are alike the left row comes first. -/
def mrg : List α → List α → List α
 | [], r => r
 | a :: l, [] => a :: l
 | a :: l, b :: r => if k b < k a then b :: mrg (a :: l) r else a :: mrg l (b :: r)
termination_by l r => l.length + r.length
def Up (l : List α) : Prop := l.Pairwise (fun a b => k a ≤ k b)
variable {k}
theorem mrg_nil (r : List α) : mrg k [] r = r := by unfold mrg; rfl
theorem mrg_nil' (l : List α) : mrg k l [] = l := by unfold mrg; cases l <;> rfl
theorem mrg_lt {a b : α} (l r : List α) (h : k b < k a) : mrg k (a :: l) (b :: r) = b :: mrg k (a :: l) r := by rw [mrg, if_pos h]
theorem mrg_ge {a b : α} (l r : List α) (h : ¬ k b < k a) : mrg k (a :: l) (b :: r) = a :: mrg k l (b :: r) := by rw [mrg, if_neg h]
theorem mrg_length : ∀ (l r : List α), (mrg k l r).length = l.length + r.length
 | [], r => by rw [mrg_nil]; simp
 | a :: l, [] => by rw [mrg_nil']; simp
 | a :: l, b :: r => by
  by_cases h : k b < k a
  ·rw [mrg_lt l r h, List.length_cons, mrg_length (a :: l) r]; simp only [List.length_cons]; omega
  ·rw [mrg_ge l r h, List.length_cons, mrg_length l (b :: r)]; simp only [List.length_cons]; omega
termination_by l r => l.length + r.length
theorem mrg_perm : ∀ (l r : List α), (mrg k l r).Perm (l ++ r)
 | [], r => by rw [mrg_nil]; exact List.Perm.refl _
 | a :: l, [] => by rw [mrg_nil', List.append_nil]
 | a :: l, b :: r => by
  by_cases h : k b < k a
  ·rw [mrg_lt l r h]; exact ((mrg_perm (a :: l) r).cons b).trans (List.perm_middle.symm)
  ·rw [mrg_ge l r h]; exact (mrg_perm l (b :: r)).cons a
termination_by l r => l.length + r.length
theorem mem_mrg {l r : List α} {x : α} : x ∈ mrg k l r ↔ x ∈ l ∨ x ∈ r := by rw [(mrg_perm l r).mem_iff, List.mem_append]
theorem Up.tail {a : α} {l : List α} (h : Up k (a :: l)) : Up k l := (List.pairwise_cons.mp h).2
theorem Up.head {a : α} {l : List α} (h : Up k (a :: l)) : ∀ x ∈ l, k a ≤ k x := (List.pairwise_cons.mp h).1
theorem Up.nil : Up k [] := List.Pairwise.nil
theorem Up.one (a : α) : Up k [a] := List.pairwise_singleton _ _
theorem Up.left {l r : List α} (h : Up k (l ++ r)) : Up k l := (List.pairwise_append.mp h).1
theorem Up.right {l r : List α} (h : Up k (l ++ r)) : Up k r := (List.pairwise_append.mp h).2.1
theorem Up.over {l r : List α} (h : Up k (l ++ r)) : ∀ a ∈ l, ∀ b ∈ r, k a ≤ k b := (List.pairwise_append.mp h).2.2
theorem mrg_up : ∀ (l r : List α), Up k l → Up k r → Up k (mrg k l r)
 | [], r, _, hr => by rw [mrg_nil]; exact hr
 | a :: l, [], hl, _ => by rw [mrg_nil']; exact hl
 | a :: l, b :: r, hl, hr => by
  by_cases h : k b < k a
  ·rw [mrg_lt l r h];refine List.pairwise_cons.mpr ⟨fun x hx => ?_, mrg_up (a :: l) r hl hr.tail⟩;rcases mem_mrg.mp hx with q | q
   ·rcases List.mem_cons.mp q with rfl | q
    ·omega
    ·have := hl.head x q; omega
   ·exact hr.head x q
  ·rw [mrg_ge l r h];refine List.pairwise_cons.mpr ⟨fun x hx => ?_, mrg_up l (b :: r) hl.tail hr⟩;rcases mem_mrg.mp hx with q | q
   ·exact hl.head x q
   ·rcases List.mem_cons.mp q with rfl | q
    ·omega
    ·have := hr.head x q; omega
termination_by l r => l.length + r.length
/-- where a row's parts stand apart, merging goes part by part. -/
theorem mrg_parts : ∀ (l1 r1 : List α) (l2 r2 : List α), (∀ a ∈ l1, ∀ b ∈ r2, k a ≤ k b) → (∀ a ∈ l2, ∀ b ∈ r1, k b < k a) → mrg k (l1 ++ l2) (r1 ++ r2) = mrg k l1 r1 ++ mrg k l2 r2
 | [], [], l2, r2, _, _ => by rw [mrg_nil]; rfl
 | [], b :: r1, l2, r2, h1, h2 => by
  rw [mrg_nil];have ih := mrg_parts [] r1 l2 r2 (by simp) (fun a ha x hx => h2 a ha x (List.mem_cons_of_mem _ hx));rw [mrg_nil] at ih;cases l2 with
  | nil => simp only [List.nil_append, mrg_nil]
  | cons a l2 =>
   simp only [List.nil_append, List.cons_append] at ih ⊢;rw [mrg_lt _ _ (h2 a (List.mem_cons_self ..) b (List.mem_cons_self ..)), ih]
 | a :: l1, [], l2, r2, h1, h2 => by
  rw [mrg_nil'];have ih := mrg_parts l1 [] l2 r2 (fun x hx => h1 x (List.mem_cons_of_mem _ hx)) (by simp);rw [mrg_nil'] at ih;cases r2 with
  | nil => simp only [List.append_nil, mrg_nil']
  | cons b r2 =>
   simp only [List.nil_append, List.cons_append] at ih ⊢;rw [mrg_ge _ _ (by have := h1 a (List.mem_cons_self ..) b (List.mem_cons_self ..); omega), ih]
 | a :: l1, b :: r1, l2, r2, h1, h2 => by
  by_cases h : k b < k a
  ·have ih := mrg_parts (a :: l1) r1 l2 r2 h1 (fun a ha x hx => h2 a ha x (List.mem_cons_of_mem _ hx));simp only [List.cons_append] at ih ⊢;rw [mrg_lt _ _ h, mrg_lt _ _ h, ih, List.cons_append]
  ·have ih := mrg_parts l1 (b :: r1) l2 r2 (fun x hx => h1 x (List.mem_cons_of_mem _ hx)) h2;simp only [List.cons_append] at ih ⊢;rw [mrg_ge _ _ h, mrg_ge _ _ h, ih, List.cons_append]
termination_by l1 r1 => l1.length + r1.length
theorem mrg_done {l r : List α} (h : ∀ a ∈ l, ∀ b ∈ r, k a ≤ k b) : mrg k l r = l ++ r := by
 have := mrg_parts l [] [] r h (by simp);simpa [mrg_nil, mrg_nil'] using this
theorem mrg_turned {l r : List α} (h : ∀ a ∈ l, ∀ b ∈ r, k b < k a) : mrg k l r = r ++ l := by
 have := mrg_parts [] r l [] (by simp) h;simpa [mrg_nil, mrg_nil'] using this
theorem mrg_assoc : ∀ (l m r : List α), Up k l → Up k m → Up k r → mrg k (mrg k l m) r = mrg k l (mrg k m r)
 | [], m, r, _, _, _ => by rw [mrg_nil, mrg_nil]
 | a :: l, [], r, _, _, _ => by rw [mrg_nil', mrg_nil]
 | a :: l, b :: m, [], _, _, _ => by rw [mrg_nil', mrg_nil']
 | a :: l, b :: m, c :: r, hl, hm, hr => by
  by_cases h1 : k b < k a
  ·rw [mrg_lt l m h1];by_cases h2 : k c < k b
   ·rw [mrg_lt _ _ h2, mrg_lt _ _ h2, mrg_lt _ _ (show k c < k a by omega), ← mrg_assoc (a :: l) (b :: m) r hl hm hr.tail, mrg_lt l m h1]
   ·rw [mrg_ge _ _ h2, mrg_ge _ _ h2, mrg_lt _ _ h1, mrg_assoc (a :: l) m (c :: r) hl hm.tail hr]
  ·rw [mrg_ge l m h1];by_cases h2 : k c < k b
   ·rw [mrg_lt _ _ h2];by_cases h3 : k c < k a
    ·rw [mrg_lt _ _ h3, mrg_lt _ _ h3, ← mrg_assoc (a :: l) (b :: m) r hl hm hr.tail, mrg_ge l m h1]
    ·rw [mrg_ge _ _ h3, mrg_ge _ _ h3, mrg_assoc l (b :: m) (c :: r) hl.tail hm hr, mrg_lt _ _ h2]
   ·rw [mrg_ge _ _ h2];rw [mrg_ge _ _ (show ¬ k c < k a by omega), mrg_ge _ _ h1, mrg_assoc l (b :: m) (c :: r) hl.tail hm hr, mrg_ge _ _ h2]
termination_by l m r => l.length + m.length + r.length
variable (k)
/-- sorted by a key, stable. -/
def srt : List α → List α
 | [] => []
 | a :: l => mrg k [a] (srt l)
variable {k}
theorem srt_up : ∀ l : List α, Up k (srt k l)
 | [] => Up.nil
 | a :: l => mrg_up _ _ (Up.one a) (srt_up l)
theorem srt_append (l r : List α) : srt k (l ++ r) = mrg k (srt k l) (srt k r) := by
 induction l with
 | nil => simp only [List.nil_append, srt, mrg_nil]
 | cons a l ih => simp only [List.cons_append, srt, ih]; exact (mrg_assoc _ _ _ (Up.one a) (srt_up l) (srt_up r)).symm
theorem srt_perm : ∀ l : List α, (srt k l).Perm l
 | [] => List.Perm.refl _
 | a :: l => (mrg_perm _ _).trans ((srt_perm l).cons a)
theorem srt_length (l : List α) : (srt k l).length = l.length := (srt_perm l).length_eq
theorem srt_one (a : α) : srt k [a] = [a] := by simp only [srt, mrg_nil']
theorem srt_snoc (l : List α) (a : α) : srt k (l ++ [a]) = mrg k (srt k l) [a] := by rw [srt_append, srt_one]
theorem srt_of_up : ∀ {l : List α}, Up k l → srt k l = l
 | [], _ => rfl
 | a :: l, h => by
  simp only [srt];rw [srt_of_up h.tail];exact mrg_done (fun x hx b hb => by rw [List.mem_singleton.mp hx]; exact h.head b hb)
end Srt
end Go.Proofs.YtdeiolagnheihaaDoor
namespace Go.Proofs.YtdeiolagnheihaaDoor
namespace Pkg
/-- a pack: its cost and its symbols -/
structure Pc where
 c : Nat
 s : List Nat
def ky (p : Pc) : Int := (p.c : Int)
def prs : List Pc → List Pc
 | a :: b :: l => ⟨a.c + b.c, a.s ++ b.s⟩ :: prs l
 | _ => []
def row (C : List Pc) : Nat → List Pc
 | 0 => C
 | d + 1 => Srt.mrg ky C (prs (row C d))
def syms (l : List Pc) : List Nat := (l.map Pc.s).flatten
def cost (l : List Pc) : Nat := (l.map Pc.c).sum
theorem syms_append (l m : List Pc) : syms (l ++ m) = syms l ++ syms m := by simp [syms]
theorem cost_append (l m : List Pc) : cost (l ++ m) = cost l + cost m := by simp [cost]
theorem cost_cons (p : Pc) (l : List Pc) : cost (p :: l) = p.c + cost l := by simp [cost]
theorem syms_cons (p : Pc) (l : List Pc) : syms (p :: l) = p.s ++ syms l := by simp [syms]
theorem prs_length : ∀ l : List Pc, (prs l).length = l.length / 2
 | [] => rfl
 | [a] => by simp [prs]
 | a :: b :: l => by simp only [prs, List.length_cons, prs_length l]; omega
theorem prs_up : ∀ {l : List Pc}, Srt.Up ky l → Srt.Up ky (prs l)
 | [], _ => Srt.Up.nil
 | [a], _ => Srt.Up.nil
 | a :: b :: l, h => by
  have ih := prs_up h.tail.tail;refine List.pairwise_cons.mpr ⟨fun x hx => ?_, ih⟩;have key : ∀ {m : List Pc}, (∀ y ∈ m, a.c ≤ y.c ∧ b.c ≤ y.c) → ∀ x ∈ prs m, a.c + b.c ≤ x.c := by
   intro m;induction m using prs.induct with
   | case1 c d m ih =>
    intro hm x hx;simp only [prs, List.mem_cons] at hx;rcases hx with rfl | hx
    ·have h1 := hm c (by simp); have h2 := hm d (by simp); show a.c + b.c ≤ c.c + d.c; omega
    ·exact ih (fun y hy => hm y (by simp [hy])) x hx
   | case2 m hm =>
    intro _ x hx;rw [prs] at hx
    ·cases hx
    ·exact hm
  have := key (m := l) (fun y hy => ⟨by have := h.head y (by simp [hy]); unfold ky at this; omega, by have := h.tail.head y hy; unfold ky at this; omega⟩) x hx;show (((a.c + b.c : Nat)) : Int) ≤ (x.c : Int);omega
theorem row_up {C : List Pc} (h : Srt.Up ky C) : ∀ d, Srt.Up ky (row C d)
 | 0 => h
 | d + 1 => Srt.mrg_up _ _ h (prs_up (row_up h d))
theorem row_length (C : List Pc) (d : Nat) : (row C (d + 1)).length = C.length + (row C d).length / 2 := by
 show (Srt.mrg ky C (prs (row C d))).length = _;rw [Srt.mrg_length, prs_length]
/-- how long the last row is at least -/
theorem row_long (C : List Pc) : ∀ d, (2 * C.length) * 2 ^ d ≤ ((row C d).length + 1) * 2 ^ d + (C.length - 1) + 0 ∨ C.length = 0
 | 0 => by
  rcases Nat.eq_zero_or_pos C.length with h | h
  ·exact .inr h
  ·left; show 2 * C.length * 1 ≤ (C.length + 1) * 1 + (C.length - 1) + 0; omega
 | d + 1 => by
  rcases row_long C d with h | h
  ·left
   rw [row_length];have e : (2 : Nat) ^ (d + 1) = 2 * 2 ^ d := by rw [Nat.pow_succ, Nat.mul_comm]
   have h2 : (row C d).length ≤ 2 * ((row C d).length / 2) + 1 := by omega
   have h3 : ((row C d).length + 1) * 2 ^ d ≤ (2 * ((row C d).length / 2) + 2) * 2 ^ d := Nat.mul_le_mul_right _ (by omega);have h4 : (2 * ((row C d).length / 2) + 2) * 2 ^ d = ((row C d).length / 2 + 1) * 2 ^ (d + 1) := by rw [e, show 2 * ((row C d).length / 2) + 2 = 2 * ((row C d).length / 2 + 1) by omega, Nat.mul_assoc, Nat.mul_left_comm ((row C d).length / 2 + 1) 2]
   have h5 : 2 * C.length * 2 ^ (d + 1) = C.length * 2 ^ (d + 1) + 2 * C.length * 2 ^ d := by rw [e]; rw [show 2 * C.length * (2 * 2 ^ d) = 2 * (2 * C.length * 2 ^ d) by rw [Nat.mul_left_comm], show C.length * (2 * 2 ^ d) = 2 * C.length * 2 ^ d by rw [Nat.mul_left_comm, Nat.mul_assoc]]; exact Nat.two_mul _
   have h6 : (C.length + (row C d).length / 2 + 1) * 2 ^ (d + 1) = C.length * 2 ^ (d + 1) + ((row C d).length / 2 + 1) * 2 ^ (d + 1) := by rw [← Nat.add_mul, Nat.add_assoc]
   omega
  ·exact .inr h
theorem row_enough {C : List Pc} {d : Nat} (hC : 1 ≤ C.length) (h : C.length ≤ 2 ^ (d + 1)) : 2 * C.length - 2 ≤ (row C d).length := by
 rcases row_long C d with q | q
 ·have e : (2 : Nat) ^ (d + 1) = 2 * 2 ^ d := by rw [Nat.pow_succ, Nat.mul_comm]
  have h0 : 0 < 2 ^ d := Nat.two_pow_pos d;apply Nat.le_of_not_lt;intro hlt;have h1 : ((row C d).length + 1) * 2 ^ d + 2 * 2 ^ d ≤ 2 * C.length * 2 ^ d := by
   rw [← Nat.add_mul];exact Nat.mul_le_mul_right _ (by omega)
  omega
 ·omega
/-- the first x of two sorted rows, merged: the first ones of each -/
theorem mrg_take : ∀ (C Q : List Pc) (x : Nat), x ≤ C.length + Q.length → ∃ c p, c + p = x ∧ c ≤ C.length ∧ p ≤ Q.length ∧ ((Srt.mrg ky C Q).take x).Perm (C.take c ++ Q.take p) ∧ (∀ q ∈ Q.take p, ∀ y ∈ C[c]?, q.c < y.c) ∨ ¬ (Srt.Up ky C ∧ Srt.Up ky Q)
 | C, Q, 0, _ => ⟨0, 0, .inl ⟨rfl, by omega, by omega, by simp, by simp⟩⟩
 | [], Q, x + 1, h => ⟨0, x + 1, .inl ⟨by omega, by simp, by simpa using h, by rw [Srt.mrg_nil]; simp, by simp⟩⟩
 | a :: C, [], x + 1, h => ⟨x + 1, 0, .inl ⟨by omega, by simpa using h, by simp, by rw [Srt.mrg_nil']; simp, by simp⟩⟩
 | a :: C, b :: Q, x + 1, h => by
  by_cases hup : Srt.Up ky (a :: C) ∧ Srt.Up ky (b :: Q)
  ·by_cases hlt : ky b < ky a
   ·rw [Srt.mrg_lt _ _ hlt];obtain ⟨c, p, hh⟩ := mrg_take (a :: C) Q x (by simp at h ⊢; omega);rcases hh with ⟨h1, h2, h3, h4, h5⟩ | hh
    ·refine ⟨c, p + 1, .inl ⟨by omega, h2, by simp; omega, ?_, ?_⟩⟩
     ·rw [List.take_succ_cons, List.take_succ_cons];exact (h4.cons b).trans List.perm_middle.symm
     ·intro q hq y hy;rw [List.take_succ_cons] at hq;rcases List.mem_cons.1 hq with rfl | hq
      ·have hya : a.c ≤ y.c := by
        cases c with
        | zero => simp at hy; subst hy; exact Nat.le_refl _
        | succ c =>
         simp at hy;have := hup.1.head y (List.mem_of_getElem? hy);unfold ky at this; omega
       unfold ky at hlt; omega
      ·exact h5 q hq y hy
    ·exact absurd ⟨hup.1, hup.2.tail⟩ hh
   ·rw [Srt.mrg_ge _ _ hlt];obtain ⟨c, p, hh⟩ := mrg_take C (b :: Q) x (by simp at h ⊢; omega);rcases hh with ⟨h1, h2, h3, h4, h5⟩ | hh
    ·refine ⟨c + 1, p, .inl ⟨by omega, by simp; omega, h3, ?_, ?_⟩⟩
     ·rw [List.take_succ_cons, List.take_succ_cons];exact h4.cons a
     ·intro q hq y hy;simp at hy;exact h5 q hq y (by simpa using hy)
    ·exact absurd ⟨hup.1.tail, hup.2⟩ hh
  ·exact ⟨0, 0, .inr hup⟩
termination_by C Q => C.length + Q.length
end Pkg
end Go.Proofs.YtdeiolagnheihaaDoor
namespace Go.Proofs.YtdeiolagnheihaaDoor
namespace Pkg
theorem syms_perm {l m : List Pc} (h : l.Perm m) : (syms l).Perm (syms m) := (h.map Pc.s).flatten
theorem cost_perm {l m : List Pc} (h : l.Perm m) : cost l = cost m := (h.map Pc.c).sum_nat
theorem prs_take : ∀ (l : List Pc) (p : Nat), 2 * p ≤ l.length → syms ((prs l).take p) = syms (l.take (2 * p)) ∧ cost ((prs l).take p) = cost (l.take (2 * p))
 | l, 0, _ => by simp
 | [], p + 1, h => by simp at h
 | [a], p + 1, h => by simp at h; omega
 | a :: b :: l, p + 1, h => by
  have ih := prs_take l p (by simp at h; omega);rw [show 2 * (p + 1) = 2 * p + 1 + 1 by omega];simp only [prs, List.take_succ_cons, syms_cons, cost_cons, ih.1, ih.2];exact ⟨by simp, by omega⟩
/-- what stands among the pairs taken is in a pair that costs more -/
theorem prs_mem : ∀ (l : List Pc) (p : Nat), 2 * p ≤ l.length → (∀ y ∈ l, 0 < y.c) → ∀ y ∈ l.take (2 * p), ∃ q ∈ (prs l).take p, y.c < q.c
 | l, 0, _, _, y, hy => by simp at hy
 | [], p + 1, h, _, y, hy => by simp at h
 | [a], p + 1, h, _, y, hy => by simp at h; omega
 | a :: b :: l, p + 1, h, hp, y, hy => by
  rw [show 2 * (p + 1) = 2 * p + 1 + 1 by omega] at hy;simp only [List.take_succ_cons, List.mem_cons] at hy;have ha := hp a (by simp);have hb := hp b (by simp);rcases hy with rfl | rfl | hy
  ·exact ⟨⟨y.c + b.c, y.s ++ b.s⟩, by simp [prs], by show y.c < y.c + b.c; omega⟩
  ·exact ⟨⟨a.c + y.c, a.s ++ y.s⟩, by simp [prs], by show y.c < a.c + y.c; omega⟩
  ·obtain ⟨q, hq, hlt⟩ := prs_mem l p (by simp at h; omega) (fun y hy => hp y (by simp [hy])) y hy;exact ⟨q, by simp only [prs, List.take_succ_cons]; exact List.mem_cons_of_mem _ hq, hlt⟩
theorem prs_pos : ∀ {l : List Pc}, (∀ y ∈ l, 0 < y.c) → ∀ y ∈ prs l, 0 < y.c
 | [], _, y, hy => by simp [prs] at hy
 | [a], _, y, hy => by simp [prs] at hy
 | a :: b :: l, h, y, hy => by
  simp only [prs, List.mem_cons] at hy;rcases hy with rfl | hy
  ·have := h a (by simp); show 0 < a.c + b.c; omega
  ·exact prs_pos (fun y hy => h y (by simp [hy])) y hy
theorem row_pos {C : List Pc} (h : ∀ y ∈ C, 0 < y.c) : ∀ d, ∀ y ∈ row C d, 0 < y.c
 | 0 => h
 | d + 1 => fun y hy => by
  rcases Srt.mem_mrg.1 hy with q | q
  ·exact h y q
  ·exact prs_pos (row_pos h d) y q
def wt : List Nat → Nat
 | [] => 0
 | c :: cs => 2 ^ cs.length * c + wt cs
def Down : List Nat → Prop
 | [] => True
 | c :: cs => (∀ x ∈ cs, x ≤ c) ∧ Down cs
/-- what the first x of a row hold: the first coins of each level -/
theorem levels {C : List Pc} (hU : Srt.Up ky C) (hp : ∀ y ∈ C, 0 < y.c) : ∀ d x, x ≤ (row C d).length → ∃ c cs, cs.length = d ∧ c ≤ C.length ∧ (∀ z ∈ cs, z ≤ C.length) ∧ Down (c :: cs) ∧ wt (c :: cs) = 2 ^ d * x ∧
  (syms ((row C d).take x)).Perm (((c :: cs).map fun z => syms (C.take z)).flatten) ∧ cost ((row C d).take x) = ((c :: cs).map fun z => cost (C.take z)).sum ∧ ∀ y ∈ C.take c, y ∈ (row C d).take x
 | 0, x, hx => ⟨x, [], rfl, hx, by simp, ⟨by simp, trivial⟩, by simp [wt], by simp [row], by simp [row], fun y hy => hy⟩
 | d + 1, x, hx => by
  have hQ := prs_up (row_up hU d);obtain ⟨c, p, h⟩ := mrg_take C (prs (row C d)) x (by rw [prs_length]; rw [row_length] at hx; exact hx);rcases h with ⟨h1, h2, h3, h4, h5⟩ | h
  ·have h2p : 2 * p ≤ (row C d).length := by rw [prs_length] at h3; omega
   obtain ⟨c1, cs, g1, g2, g3, g4, g5, g6, g7, g8⟩ := levels hU hp d (2 * p) h2p;obtain ⟨e1, e2⟩ := prs_take (row C d) p h2p;have hc : c1 ≤ c := by
    apply Nat.le_of_not_lt;intro hlt;have hcl : c < C.length := by omega
    have hm : C[c] ∈ (row C d).take (2 * p) := g8 _ (by
     rw [List.mem_take_iff_getElem];exact ⟨c, by omega, rfl⟩)
    obtain ⟨q, hq, hlt2⟩ := prs_mem (row C d) p h2p (row_pos hp d) _ hm;have := h5 q hq C[c] (by simp [hcl]);omega
   refine ⟨c, c1 :: cs, by simp [g1], h2, ?_, ⟨?_, g4⟩, ?_, ?_, ?_, ?_⟩
   ·intro z hz;rcases List.mem_cons.1 hz with rfl | hz
    ·exact g2
    ·exact g3 z hz
   ·intro z hz;rcases List.mem_cons.1 hz with rfl | hz
    ·exact hc
    ·have := g4.1 z hz; omega
   ·show 2 ^ (c1 :: cs).length * c + wt (c1 :: cs) = _;rw [g5, List.length_cons, g1, ← h1, Nat.pow_succ, Nat.mul_add, Nat.mul_assoc, Nat.mul_assoc]
   ·have := syms_perm h4;rw [syms_append, e1] at this;simp only [List.map_cons, List.flatten_cons] at g6 ⊢;exact this.trans (g6.append_left _)
   ·have := cost_perm h4;rw [cost_append, e2, g7] at this;simp only [List.map_cons, List.sum_cons] at this ⊢;exact this
   ·intro y hy;have : y ∈ C.take c ++ (prs (row C d)).take p := List.mem_append_left _ hy;exact h4.mem_iff.2 this
  ·exact absurd ⟨hU, hQ⟩ h
/-- how many levels hold the coin at j -/
def lv (cs : List Nat) (j : Nat) : Nat := (cs.filter fun c => decide (j < c)).length
theorem lv_cons (c : Nat) (cs : List Nat) (j : Nat) : lv (c :: cs) j = (if j < c then 1 else 0) + lv cs j := by
 unfold lv;by_cases h : j < c
 ·simp [h]; omega
 ·simp [h]
theorem lv_le (cs : List Nat) (j : Nat) : lv cs j ≤ cs.length := List.length_filter_le _ _
theorem lv_none {cs : List Nat} {j : Nat} (h : ∀ c ∈ cs, c ≤ j) : lv cs j = 0 := by
 unfold lv;rw [List.length_eq_zero_iff, List.filter_eq_nil_iff];intro c hc;have := h c hc;simp; omega
/-- the weight of the levels that hold the coin at j -/
def wj (j : Nat) : List Nat → Nat
 | [] => 0
 | c :: cs => (if j < c then 2 ^ cs.length else 0) + wj j cs
theorem wj_none {j : Nat} : ∀ {cs : List Nat}, (∀ c ∈ cs, c ≤ j) → wj j cs = 0
 | [], _ => rfl
 | c :: cs, h => by
  have := h c (by simp);simp only [wj, if_neg (show ¬ j < c by omega), wj_none (fun x hx => h x (List.mem_cons_of_mem _ hx))]
theorem wj_lv (j : Nat) : ∀ {cs : List Nat}, Down cs → wj j cs + 2 ^ (cs.length - lv cs j) = 2 ^ cs.length
 | [], _ => rfl
 | c :: cs, h => by
  by_cases hc : j < c
  ·have ih := wj_lv j h.2;have := lv_le cs j;simp only [wj, if_pos hc, lv_cons, List.length_cons];rw [show cs.length + 1 - (1 + lv cs j) = cs.length - lv cs j by omega, Nat.pow_succ];omega
  ·have hn : ∀ x ∈ c :: cs, x ≤ j := by
    intro x hx;rcases List.mem_cons.1 hx with rfl | hx
    ·omega
    ·have := h.1 x hx; omega
   rw [wj_none hn, lv_none hn]; simp
def sumTo (f : Nat → Nat) : Nat → Nat
 | 0 => 0
 | n + 1 => sumTo f n + f n
theorem sumTo_congr {f g : Nat → Nat} : ∀ {n : Nat}, (∀ j, j < n → f j = g j) → sumTo f n = sumTo g n
 | 0, _ => rfl
 | n + 1, h => by simp only [sumTo]; rw [sumTo_congr (fun j hj => h j (by omega)), h n (by omega)]
theorem sumTo_add (f g : Nat → Nat) : ∀ n, sumTo (fun j => f j + g j) n = sumTo f n + sumTo g n
 | 0 => rfl
 | n + 1 => by simp only [sumTo, sumTo_add f g n]; omega
theorem sumTo_const (c : Nat) : ∀ n, sumTo (fun _ => c) n = n * c
 | 0 => by simp [sumTo]
 | n + 1 => by simp only [sumTo, sumTo_const c n, Nat.add_mul]; omega
theorem sumTo_below (w c : Nat) : ∀ n, sumTo (fun j => if j < c then w else 0) n = w * min n c
 | 0 => by simp [sumTo]
 | n + 1 => by
  simp only [sumTo, sumTo_below w c n];by_cases h : n < c
  ·rw [if_pos h, show min n c = n by omega, show min (n + 1) c = n + 1 by omega, Nat.mul_add]; omega
  ·rw [if_neg h, show min n c = c by omega, show min (n + 1) c = c by omega]; omega
theorem sum_wj (n : Nat) : ∀ {cs : List Nat}, (∀ c ∈ cs, c ≤ n) → sumTo (fun j => wj j cs) n = wt cs
 | [], _ => by show sumTo (fun _ => 0) n = 0; rw [sumTo_const]; simp
 | c :: cs, h => by
  show sumTo (fun j => (if j < c then 2 ^ cs.length else 0) + wj j cs) n = _;rw [sumTo_add, sumTo_below, sum_wj n (fun x hx => h x (List.mem_cons_of_mem _ hx)), show min n c = c by have := h c (by simp); omega];rfl
/-- KRAFT: the lengths are those of a code that leaves nothing -/
theorem kraft_sum {cs : List Nat} {n d : Nat} (h1 : cs.length = d + 1) (h2 : ∀ c ∈ cs, c ≤ n) (h3 : Down cs) (h4 : wt cs = 2 ^ d * (2 * n - 2)) (hn : 1 ≤ n) : sumTo (fun j => 2 ^ (d + 1 - lv cs j)) n = 2 ^ (d + 1) := by
 have e := sumTo_add (fun j => wj j cs) (fun j => 2 ^ (cs.length - lv cs j)) n;rw [sumTo_congr (g := fun _ => 2 ^ cs.length) (fun j _ => wj_lv j h3), sumTo_const, sum_wj n h2, h4, h1] at e;have e2 : 2 ^ d * (2 * n - 2) = (n - 1) * 2 ^ (d + 1) := by
  rw [show 2 * n - 2 = 2 * (n - 1) by omega, Nat.pow_succ, Nat.mul_comm (n - 1), Nat.mul_assoc]
 have e3 : n * 2 ^ (d + 1) = (n - 1) * 2 ^ (d + 1) + 2 ^ (d + 1) := by
  obtain ⟨m, rfl⟩ : ∃ m, n = m + 1 := ⟨n - 1, by omega⟩;rw [Nat.add_sub_cancel, Nat.add_mul]; omega
 omega
theorem sumTo_two {f : Nat → Nat} {n i j : Nat} (hij : i ≠ j) (hi : i < n) (hj : j < n) : f i + f j ≤ sumTo f n := by
 have one : ∀ n i, i < n → f i ≤ sumTo f n := by
  intro n;induction n with
  | zero => intro i h; omega
  | succ n ih =>
   intro i h;simp only [sumTo];rcases Nat.lt_or_ge i n with q | q
   ·have := ih i q; omega
   ·have : i = n := by omega
    subst this; omega
 induction n with
 | zero => omega
 | succ n ih =>
  simp only [sumTo];rcases Nat.lt_or_ge i n with q | q
  ·rcases Nat.lt_or_ge j n with r | r
   ·have := ih q r; omega
   ·have : j = n := by omega
    subst this;have := one j i q; omega
  ·have : i = n := by omega
   subst this;have := one i j (by omega); omega
theorem lv_pos {cs : List Nat} {n d : Nat} (h1 : cs.length = d + 1) (h2 : ∀ c ∈ cs, c ≤ n) (h3 : Down cs) (h4 : wt cs = 2 ^ d * (2 * n - 2)) (hn : 2 ≤ n) (j : Nat) (hj : j < n) : 1 ≤ lv cs j := by
 apply Nat.one_le_iff_ne_zero.2;intro h0;have e := kraft_sum h1 h2 h3 h4 (by omega);obtain ⟨i, hi, hij⟩ : ∃ i, i < n ∧ i ≠ j := by
  by_cases h : j = 0
  ·exact ⟨1, by omega, by omega⟩
  ·exact ⟨0, by omega, by omega⟩
 have := sumTo_two (f := fun j => 2 ^ (d + 1 - lv cs j)) hij hi hj;simp only [h0] at this;have := Nat.two_pow_pos (d + 1 - lv cs i);simp only [Nat.sub_zero] at *;omega
end Pkg
end Go.Proofs.YtdeiolagnheihaaDoor
namespace Go.Proofs.YtdeiolagnheihaaDoor
namespace Srt
theorem mrg_map {α β : Type} {k : α → Int} {k' : β → Int} (m : α → β) (h : ∀ a, k' (m a) = k a) : ∀ l r : List α, mrg k' (l.map m) (r.map m) = (mrg k l r).map m
 | [], r => by simp [mrg_nil]
 | a :: l, [] => by simp [mrg_nil']
 | a :: l, b :: r => by
  simp only [List.map_cons];by_cases hlt : k b < k a
  ·rw [mrg_lt _ _ (by rw [h, h]; exact hlt), mrg_lt _ _ hlt, ← List.map_cons, mrg_map m h (a :: l) r]; rfl
  ·rw [mrg_ge _ _ (by rw [h, h]; exact hlt), mrg_ge _ _ hlt, ← List.map_cons, mrg_map m h l (b :: r)]; rfl
termination_by l r => l.length + r.length
theorem srt_map {α β : Type} {k : α → Int} {k' : β → Int} (m : α → β) (h : ∀ a, k' (m a) = k a) : ∀ l : List α, srt k' (l.map m) = (srt k l).map m
 | [] => rfl
 | a :: l => by
  simp only [List.map_cons, srt, srt_map m h l];exact mrg_map m h [a] (srt k l)
end Srt
namespace Pkg
/-- the symbols that count -/
def used (cnt : Nat → Nat) (len : Nat) : List Nat := (List.range len).filter fun i => decide (0 < cnt i)
def coin (cnt : Nat → Nat) (i : Nat) : Pc := ⟨cnt i, [i]⟩
def coins (cnt : Nat → Nat) (len : Nat) : List Pc := (used cnt len).map (coin cnt)
def order (cnt : Nat → Nat) (len : Nat) : List Nat := Srt.srt (fun i => (cnt i : Int)) (used cnt len)
theorem mem_used {cnt : Nat → Nat} {len i : Nat} : i ∈ used cnt len ↔ i < len ∧ 0 < cnt i := by simp [used]
theorem used_nodup (cnt : Nat → Nat) (len : Nat) : (used cnt len).Nodup := List.nodup_range.filter _
theorem order_perm (cnt : Nat → Nat) (len : Nat) : (order cnt len).Perm (used cnt len) := Srt.srt_perm _
theorem order_nodup (cnt : Nat → Nat) (len : Nat) : (order cnt len).Nodup := (order_perm cnt len).nodup_iff.2 (used_nodup cnt len)
theorem sorted_coins (cnt : Nat → Nat) (len : Nat) : Srt.srt ky (coins cnt len) = (order cnt len).map (coin cnt) := Srt.srt_map (k := fun i => (cnt i : Int)) (coin cnt) (fun _ => rfl) _
theorem syms_coins (cnt : Nat → Nat) (T : List Nat) (z : Nat) : syms ((T.map (coin cnt)).take z) = T.take z := by
 rw [← List.map_take];unfold syms;rw [List.map_map];induction T.take z with
 | nil => rfl
 | cons a l ih => simp only [List.map_cons, List.flatten_cons, ih]; rfl
theorem count_take {T : List Nat} (hT : T.Nodup) {p : Nat} (hp : p < T.length) (z : Nat) : (T.take z).count T[p] = if p < z then 1 else 0 := by
 have hn : (T.take z).Nodup := hT.sublist (List.take_sublist _ _);by_cases h : p < z
 ·rw [if_pos h];rw [hn.count, if_pos];rw [List.mem_take_iff_getElem];exact ⟨p, by omega, rfl⟩
 ·rw [if_neg h, List.count_eq_zero];intro hm;rw [List.mem_take_iff_getElem] at hm;obtain ⟨q, hq, e⟩ := hm;have := (List.getElem_inj hT).1 e;omega
theorem count_levels {T : List Nat} (hT : T.Nodup) {p : Nat} (hp : p < T.length) : ∀ cs : List Nat, ((cs.map fun z => T.take z).flatten).count T[p] = lv cs p
 | [] => rfl
 | c :: cs => by
  rw [List.map_cons, List.flatten_cons, List.count_append, count_take hT hp, count_levels hT hp cs, lv_cons]
/-- the lengths: 0 where there is none, 1 where there is but one -/
def lens (cnt : Nat → Nat) (len most s : Nat) : Nat :=
 if (used cnt len).length < 2 then if s ∈ used cnt len then 1 else 0
 else (syms ((row (Srt.srt ky (coins cnt len)) (most - 1)).take (2 * (used cnt len).length - 2))).count s
theorem sum_map_perm {f : Nat → Nat} {l m : List Nat} (h : l.Perm m) : (l.map f).sum = (m.map f).sum := (h.map f).sum_nat
theorem sum_used (g : Nat → Nat) (cnt : Nat → Nat) : ∀ len, ((used cnt len).map g).sum = sumTo (fun i => if 0 < cnt i then g i else 0) len
 | 0 => rfl
 | len + 1 => by
  have e : used cnt (len + 1) = used cnt len ++ (if 0 < cnt len then [len] else []) := by
   unfold used;rw [List.range_succ, List.filter_append];congr 1
   by_cases h : 0 < cnt len <;> simp [h]
  rw [e, List.map_append, List.sum_append, sum_used g cnt len];simp only [sumTo];congr 1
  by_cases h : 0 < cnt len <;> simp [h]
theorem sum_pos (f : Nat → Nat) : ∀ T : List Nat, (T.map f).sum = sumTo (fun p => f (T.getD p 0)) T.length
 | T => by
  have key : ∀ k, k ≤ T.length → ((T.take k).map f).sum = sumTo (fun p => f (T.getD p 0)) k := by
   intro k;induction k with
   | zero => intro _; rfl
   | succ k ih =>
    intro hk;rw [List.take_succ_eq_append_getElem (by omega), List.map_append, List.sum_append, ih (by omega)];simp only [sumTo, List.map_cons, List.map_nil, List.sum_cons, List.sum_nil, Nat.add_zero];rw [List.getD_eq_getElem?_getD, List.getElem?_eq_getElem (by omega)];rfl
  have := key T.length (Nat.le_refl _);rwa [List.take_length] at this
/-- what is known of the lengths of two symbols and more -/
theorem lens_many {cnt : Nat → Nat} {len most : Nat} (hn : 2 ≤ (used cnt len).length) (hm : 1 ≤ most) (h : (used cnt len).length ≤ 2 ^ most) :
  (∀ s, s ∈ used cnt len → 1 ≤ lens cnt len most s ∧ lens cnt len most s ≤ most) ∧ (∀ s, s ∉ used cnt len → lens cnt len most s = 0) ∧
  sumTo (fun s => if 0 < cnt s then 2 ^ (most - lens cnt len most s) else 0) len = 2 ^ most ∧
  ∃ cs : List Nat, cs.length = most ∧ (∀ c ∈ cs, c ≤ (used cnt len).length) ∧ Down cs ∧ wt cs = 2 ^ (most - 1) * (2 * (used cnt len).length - 2) ∧ (∀ p (hp : p < (order cnt len).length), lens cnt len most (order cnt len)[p] = lv cs p) ∧
   cost ((row (Srt.srt ky (coins cnt len)) (most - 1)).take (2 * (used cnt len).length - 2)) = (cs.map fun z => cost ((Srt.srt ky (coins cnt len)).take z)).sum := by
 obtain ⟨d, rfl⟩ : ∃ d, most = d + 1 := ⟨most - 1, by omega⟩;obtain ⟨n, hn0⟩ : ∃ n, (used cnt len).length = n := ⟨_, rfl⟩;have hTl : (order cnt len).length = n := by rw [(order_perm cnt len).length_eq, hn0]
 have hC := sorted_coins cnt len;have hCl : (Srt.srt ky (coins cnt len)).length = n := by rw [hC, List.length_map, hTl]
 have hpos : ∀ y ∈ Srt.srt ky (coins cnt len), 0 < y.c := by
  intro y hy;rw [hC] at hy;obtain ⟨i, hi, rfl⟩ := List.mem_map.1 hy;exact (mem_used.1 ((order_perm cnt len).mem_iff.1 hi)).2
 have hlong : 2 * n - 2 ≤ (row (Srt.srt ky (coins cnt len)) d).length := by
  have := row_enough (C := Srt.srt ky (coins cnt len)) (d := d) (by omega) (by rw [hCl]; rw [hn0] at h; exact h);rwa [hCl] at this
 obtain ⟨c, cs, g1, g2, g3, g4, g5, g6, g7, _⟩ := levels (Srt.srt_up _) hpos d (2 * n - 2) hlong;have k1 : (c :: cs).length = d + 1 := by simp [g1]
 have k2 : ∀ z ∈ c :: cs, z ≤ n := by
  intro z hz;rw [← hCl];rcases List.mem_cons.1 hz with rfl | hz
  ·exact g2
  ·exact g3 z hz
 have hcount : ∀ s, lens cnt len (d + 1) s = (((c :: cs).map fun z => (order cnt len).take z).flatten).count s := by
  intro s;unfold lens;rw [hn0, if_neg (by omega), Nat.add_sub_cancel, g6.count_eq];congr 2
  apply List.map_congr_left;intro z _;rw [hC, syms_coins]
 have hat : ∀ p (hp : p < (order cnt len).length), lens cnt len (d + 1) (order cnt len)[p] = lv (c :: cs) p := fun p hp => by rw [hcount, count_levels (order_nodup cnt len) hp]
 refine ⟨?_, ?_, ?_, c :: cs, k1, by rw [hn0]; exact k2, g4, by rw [hn0, Nat.add_sub_cancel]; exact g5, hat, by rw [hn0, Nat.add_sub_cancel]; exact g7⟩
 ·intro s hs;obtain ⟨p, hp, e⟩ := List.mem_iff_getElem.1 ((order_perm cnt len).mem_iff.2 hs);rw [← e, hat p hp];refine ⟨lv_pos k1 k2 g4 g5 (by omega) p (by omega), ?_⟩;have := lv_le (c :: cs) p;omega
 ·intro s hs;rw [hcount, List.count_eq_zero];intro hm;obtain ⟨l, hl, hsl⟩ := List.mem_flatten.1 hm;obtain ⟨z, _, rfl⟩ := List.mem_map.1 hl;exact hs ((order_perm cnt len).mem_iff.1 (List.mem_of_mem_take hsl))
 ·rw [← sum_used (fun s => 2 ^ (d + 1 - lens cnt len (d + 1) s)) cnt len, ← sum_map_perm (order_perm cnt len), sum_pos, hTl, ← kraft_sum k1 k2 g4 g5 (by omega)];apply sumTo_congr;intro j hj;rw [List.getD_eq_getElem?_getD, List.getElem?_eq_getElem (by omega), Option.getD_some, hat j (by omega)]
end Pkg
end Go.Proofs.YtdeiolagnheihaaDoor
namespace Go.Proofs.YtdeiolagnheihaaDoor
namespace Pkg
theorem cost_take_succ {x : Pc} : ∀ {l : List Pc}, Srt.Up ky (x :: l) → ∀ {a : Nat}, a ≤ l.length → x.c + cost ((x :: l).take a) ≤ cost ((x :: l).take (a + 1))
 | l, h, 0, _ => by simp [cost]
 | [], h, a + 1, ha => by simp at ha
 | y :: l, h, a + 1, ha => by
  have hxy : x.c ≤ y.c := by
   have h1 := h.head y (List.mem_cons_self ..);have h2 : (x.c : Int) ≤ (y.c : Int) := h1;omega
  have ih := cost_take_succ (x := y) h.tail (a := a) (by simpa using ha);rw [List.take_succ_cons, List.take_succ_cons (a := x), cost_cons, cost_cons];omega
/-- the first of two rows merged cost no more than any first ones of both -/
theorem mrg_cheap : ∀ (C Q : List Pc), Srt.Up ky C → Srt.Up ky Q → ∀ a b, a ≤ C.length → b ≤ Q.length → cost ((Srt.mrg ky C Q).take (a + b)) ≤ cost (C.take a) + cost (Q.take b)
 | [], Q, _, _, a, b, ha, hb => by
  obtain rfl : a = 0 := by simpa using ha
  rw [Srt.mrg_nil, Nat.zero_add];simp [cost]
 | x :: C, [], _, _, a, b, ha, hb => by
  obtain rfl : b = 0 := by simpa using hb
  rw [Srt.mrg_nil'];simp [cost]
 | x :: C, y :: Q, hC, hQ, a, b, ha, hb => by
  by_cases h : ky y < ky x
  ·rw [Srt.mrg_lt C Q h];have hyx : y.c < x.c := by
    have h2 : (y.c : Int) < (x.c : Int) := h;omega
   cases b with
   | succ b =>
    have ih := mrg_cheap (x :: C) Q hC hQ.tail a b ha (by simpa using hb);rw [show a + (b + 1) = (a + b) + 1 by omega, List.take_succ_cons, List.take_succ_cons, cost_cons, cost_cons];omega
   | zero =>
    cases a with
    | zero => simp [cost]
    | succ a =>
     have ih := mrg_cheap (x :: C) Q hC hQ.tail a 0 (by simp at ha ⊢; omega) (Nat.zero_le _);have h2 := cost_take_succ hC (a := a) (by simpa using ha);rw [show a + 1 + 0 = a + 1 by omega, List.take_succ_cons, cost_cons];rw [Nat.add_zero] at ih;simp only [List.take_zero] at ih ⊢;have e0 : cost ([] : List Pc) = 0 := rfl;rw [e0] at ih ⊢;omega
  ·rw [Srt.mrg_ge C Q h];have hyx : x.c ≤ y.c := by
    have h2 : ¬ (y.c : Int) < (x.c : Int) := h;omega
   cases a with
   | succ a =>
    have ih := mrg_cheap C (y :: Q) hC.tail hQ a b (by simpa using ha) hb;rw [show a + 1 + b = (a + b) + 1 by omega, List.take_succ_cons, List.take_succ_cons, cost_cons, cost_cons];omega
   | zero =>
    cases b with
    | zero => simp [cost]
    | succ b =>
     have ih := mrg_cheap C (y :: Q) hC.tail hQ 0 b (Nat.zero_le _) (by simp at hb ⊢; omega);have h2 := cost_take_succ hQ (a := b) (by simpa using hb);rw [show 0 + (b + 1) = b + 1 by omega, List.take_succ_cons, cost_cons];rw [Nat.zero_add] at ih;simp only [List.take_zero] at ih ⊢;have e0 : cost ([] : List Pc) = 0 := rfl;rw [e0] at ih ⊢;omega
termination_by C Q => C.length + Q.length
end Pkg
namespace Hb
open Pkg
def never : Nat := 1099511627776
def minK (c : Nat) (g : Nat → Nat) : Nat → Nat
 | 0 => never
 | n + 1 => if g n < never ∧ c + g n < minK c g n then c + g n else minK c g n
def bst (rest : Nat → Nat) (m : Nat) : Nat → Nat → Nat → Nat
 | 0, p, q => if p = m then (if q = 0 then 0 else never) else never
 | f + 1, p, q => if p = m then (if q = 0 then 0 else never) else if q = 0 ∨ m - p < q then never else minK (rest p) (fun k => bst rest m f (p + k) (2 * (q - k))) (q + 1)
theorem minK_never (c : Nat) (g : Nat → Nat) : ∀ n, minK c g n ≤ never
 | 0 => Nat.le_refl _
 | n + 1 => by
  have ih := minK_never c g n;unfold minK;split
  ·omega
  ·exact ih
theorem minK_le {c : Nat} {g : Nat → Nat} {k : Nat} (h : g k < never) : ∀ n, k < n → minK c g n ≤ c + g k
 | 0, hk => by omega
 | n + 1, hk => by
  unfold minK;by_cases e : k = n
  ·subst e;split
   ·exact Nat.le_refl _
   ·rename_i q;rcases Nat.lt_or_ge (c + g k) (minK c g k) with r | r
    ·exact absurd ⟨h, r⟩ q
    ·exact r
  ·have ih := minK_le (c := c) h n (by omega);split
   ·omega
   ·exact ih
theorem minK_ex {c : Nat} {g : Nat → Nat} : ∀ n, minK c g n < never → ∃ k, k < n ∧ g k < never ∧ minK c g n = c + g k
 | 0, h => by unfold minK at h; omega
 | n + 1, h => by
  unfold minK at h ⊢;split at h
  ·rename_i q;rw [if_pos q];exact ⟨n, by omega, q.1, rfl⟩
  ·rename_i q;rw [if_neg q];obtain ⟨k, h1, h2, h3⟩ := minK_ex n h;exact ⟨k, by omega, h2, h3⟩
theorem bst_zero {rest : Nat → Nat} {m : Nat} : ∀ f, bst rest m f m 0 = 0
 | 0 => by simp [bst]
 | f + 1 => by simp [bst]
theorem low {C : List Pc} (hU : Srt.Up ky C) {n : Nat} (hn : C.length = n) {rest : Nat → Nat} (hr : ∀ p, p ≤ n → rest p = cost (C.take (n - p))) :
  ∀ f p q, p ≤ n → bst rest n f p q < never → 2 * (n - p) - q ≤ (row C (f - 1)).length ∧ cost ((row C (f - 1)).take (2 * (n - p) - q)) ≤ bst rest n f p q
 | 0, p, q, hp, h => by
  unfold bst at h ⊢;by_cases e : p = n
  ·subst e;rw [Nat.sub_self];simp [cost]
  ·rw [if_neg e] at h; omega
 | f + 1, p, q, hp, h => by
  unfold bst at h ⊢;rw [Nat.add_sub_cancel];by_cases e : p = n
  ·subst e;rw [Nat.sub_self];simp [cost]
  ·rw [if_neg e] at h ⊢;by_cases e2 : q = 0 ∨ n - p < q
   ·rw [if_pos e2] at h; omega
   ·rw [if_neg e2] at h ⊢;obtain ⟨k, hk, hg, hm⟩ := minK_ex _ h;have ih := low hU hn hr f (p + k) (2 * (q - k)) (by omega) hg;obtain ⟨b, hb⟩ : ∃ b, n - p - q = b := ⟨_, rfl⟩;rw [show 2 * (n - (p + k)) - 2 * (q - k) = 2 * b by omega] at ih;rw [show 2 * (n - p) - q = (n - p) + b by omega, hm];cases f with
    | zero =>
     have h0 : bst rest n 0 (p + k) (2 * (q - k)) < never := hg;have hpk : p + k = n ∧ q = k := by
      unfold bst at h0;by_cases e3 : p + k = n
      ·rw [if_pos e3] at h0;by_cases e4 : 2 * (q - k) = 0
       ·omega
       ·rw [if_neg e4] at h0; omega
      ·rw [if_neg e3] at h0; omega
     have hb0 : b = 0 := by omega
     subst hb0;rw [Nat.add_zero, hr p hp];exact ⟨by show n - p ≤ C.length; omega, Nat.le_add_right _ _⟩
    | succ f =>
     rw [Nat.add_sub_cancel] at ih;obtain ⟨i1, i2⟩ := ih;have hq := prs_take (row C f) b i1;have hc := mrg_cheap C (prs (row C f)) hU (prs_up (row_up hU f)) (n - p) b (by omega) (by rw [prs_length]; omega);rw [hq.2] at hc;refine ⟨by rw [row_length]; omega, ?_⟩;rw [hr p hp];exact Nat.le_trans hc (Nat.add_le_add_left i2 _)
theorem wt_le : ∀ {cs : List Nat} {c : Nat}, (∀ z ∈ cs, z ≤ c) → wt cs + c ≤ 2 ^ cs.length * c
 | [], c, _ => by simp [wt]
 | x :: cs, c, h => by
  have ih := wt_le (cs := cs) (c := c) (fun z hz => h z (List.mem_cons_of_mem _ hz));have hx := h x (List.mem_cons_self ..);have h1 : 2 ^ cs.length * x ≤ 2 ^ cs.length * c := Nat.mul_le_mul_left _ hx;have h2 : 2 ^ (cs.length + 1) * c = 2 ^ cs.length * c + 2 ^ cs.length * c := by rw [Nat.pow_succ, Nat.mul_assoc, Nat.two_mul, Nat.mul_add]
  rw [wt, List.length_cons, h2];omega
theorem high {C : List Pc} {n : Nat} {rest : Nat → Nat} (hr : ∀ p, p ≤ n → rest p = cost (C.take (n - p))) :
  ∀ (cs : List Nat) (c x : Nat), c ≤ n → Down (c :: cs) → wt (c :: cs) = 2 ^ cs.length * x → ((c :: cs).map fun z => cost (C.take z)).sum < never →
   bst rest n (cs.length + 1) (n - c) (2 * c - x) ≤ ((c :: cs).map fun z => cost (C.take z)).sum := by
 intro cs;induction cs with
 | nil =>
  intro c x hc hD hw hs;simp only [wt, List.length_nil, Nat.pow_zero, Nat.one_mul, Nat.add_zero] at hw;subst hw;simp only [List.map_cons, List.map_nil, List.sum_cons, List.sum_nil, Nat.add_zero] at hs ⊢;rw [show 2 * c - c = c by omega];by_cases h0 : c = 0
  ·subst h0;rw [Nat.sub_zero, bst_zero];exact Nat.zero_le _
  ·show bst rest n (0 + 1) (n - c) c ≤ _;unfold bst;rw [if_neg (by omega), if_neg (by omega)];have hz : bst rest n 0 (n - c + c) (2 * (c - c)) = 0 := by rw [show n - c + c = n by omega, Nat.sub_self]; exact bst_zero 0
   have := minK_le (c := rest (n - c)) (g := fun k => bst rest n 0 (n - c + k) (2 * (c - k))) (k := c) (by show bst rest n 0 (n - c + c) (2 * (c - c)) < never; rw [hz]; decide) (c + 1) (by omega);simp only [hz] at this;rw [hr (n - c) (by omega), show n - (n - c) = c by omega, Nat.add_zero] at this;rw [hr (n - c) (by omega), show n - (n - c) = c by omega];exact this
 | cons c' cs ih =>
  intro c x hc hD hw hs;have hD' : Down (c' :: cs) := hD.2;have hcc : c' ≤ c := hD.1 c' (List.mem_cons_self ..);have hsum : ((c :: c' :: cs).map fun z => cost (C.take z)).sum = cost (C.take c) + ((c' :: cs).map fun z => cost (C.take z)).sum := by simp
  rw [hsum] at hs ⊢;by_cases h0 : c = 0
  ·subst h0;have h1 := wt_le (cs := 0 :: c' :: cs) (c := 0) (fun z hz => by
    rcases List.mem_cons.1 hz with rfl | hz
    ·exact Nat.le_refl _
    ·exact hD.1 z hz)
   rw [Nat.sub_zero, show 2 * 0 - x = 0 by omega, bst_zero];exact Nat.zero_le _
  ·have hwl := wt_le (cs := c' :: cs) (c := c) hD.1;have hwl2 := wt_le (cs := c' :: cs) (c := c') (fun z hz => by
    rcases List.mem_cons.1 hz with rfl | hz
    ·exact Nat.le_refl _
    ·exact hD'.1 z hz)
   obtain ⟨P, hP⟩ : ∃ P, 2 ^ (c' :: cs).length = P := ⟨_, rfl⟩;have hPp : 0 < P := by rw [← hP]; exact Nat.two_pow_pos _
   have hw' : P * c + wt (c' :: cs) = P * x := by rw [← hP]; exact hw
   rw [hP] at hwl hwl2;have hx1 : c ≤ x := by
    rcases Nat.lt_or_ge x c with q | q
    ·have : P * x < P * c := Nat.mul_lt_mul_of_pos_left q hPp;omega
    ·exact q
   obtain ⟨y, rfl⟩ : ∃ y, x = c + y := ⟨x - c, by omega⟩;rw [Nat.mul_add] at hw';have hwy : wt (c' :: cs) = P * y := by omega
   have hyc : y < c := by
    rcases Nat.lt_or_ge y c with q | q
    ·exact q
    ·have : P * c ≤ P * y := Nat.mul_le_mul_left _ q;omega
   have hyc' : y ≤ c' := by
    rcases Nat.lt_or_ge c' y with q | q
    ·have : P * c' < P * y := Nat.mul_lt_mul_of_pos_left q hPp;omega
    ·exact q
   have hwn : wt (c' :: cs) = 2 ^ cs.length * (2 * y) := by
    rw [hwy, ← hP, List.length_cons, Nat.pow_succ, Nat.mul_assoc]
   have ih' := ih c' (2 * y) (by omega) hD' hwn (by omega);show bst rest n (cs.length + 1 + 1) (n - c) (2 * c - (c + y)) ≤ _;rw [show 2 * c - (c + y) = c - y by omega];unfold bst;rw [if_neg (by omega), if_neg (by omega)];have hz : bst rest n (cs.length + 1) (n - c + (c - c')) (2 * (c - y - (c - c'))) ≤ ((c' :: cs).map fun z => cost (C.take z)).sum := by
    rw [show n - c + (c - c') = n - c' by omega, show 2 * (c - y - (c - c')) = 2 * c' - 2 * y by omega];exact ih'
   have := minK_le (c := rest (n - c)) (g := fun k => bst rest n (cs.length + 1) (n - c + k) (2 * (c - y - k))) (k := c - c') (by show bst rest n (cs.length + 1) (n - c + (c - c')) (2 * (c - y - (c - c'))) < never; omega) (c - y + 1) (by omega);rw [hr (n - c) (by omega), show n - (n - c) = c by omega] at this ⊢;omega
theorem lv_sum (g : Nat → Nat) {n : Nat} : ∀ {cs : List Nat}, (∀ c ∈ cs, c ≤ n) → sumTo (fun p => lv cs p * g p) n = (cs.map fun z => sumTo g z).sum
 | [], _ => by
  have : (fun p => lv [] p * g p) = fun _ => 0 := by funext p; simp [lv]
  rw [this, sumTo_const];simp
 | c :: cs, h => by
  have ih := lv_sum g (cs := cs) (fun z hz => h z (List.mem_cons_of_mem _ hz));have hc := h c (List.mem_cons_self ..);have e : (fun p => lv (c :: cs) p * g p) = fun p => (if p < c then g p else 0) + lv cs p * g p := by
   funext p
   rw [lv_cons, Nat.add_mul];split <;> simp
  have e2 : ∀ m, sumTo (fun p => if p < c then g p else 0) m = sumTo g (min m c) := by
   intro m;induction m with
   | zero => simp [sumTo]
   | succ m ihm =>
    rw [sumTo, ihm];by_cases q : m < c
    ·rw [if_pos q, show min (m + 1) c = m + 1 by omega, show min m c = m by omega, sumTo]
    ·rw [if_neg q, show min (m + 1) c = min m c by omega, Nat.add_zero]
  rw [e, sumTo_add, e2, ih, show min n c = c by omega, List.map_cons, List.sum_cons]
end Hb
end Go.Proofs.YtdeiolagnheihaaDoor
namespace Go.Proofs.YtdeiolagnheihaaDoor
namespace Hb
open Pkg
theorem cost_take (cnt : Nat → Nat) (len z : Nat) (hz : z ≤ (order cnt len).length) : cost ((Srt.srt ky (coins cnt len)).take z) = sumTo (fun p => cnt ((order cnt len).getD p 0)) z := by
 have e : cost ((Srt.srt ky (coins cnt len)).take z) = (((order cnt len).take z).map cnt).sum := by
  rw [sorted_coins, ← List.map_take];unfold cost;rw [List.map_map];rfl
 rw [e, sum_pos];have hl : ((order cnt len).take z).length = z := by rw [List.length_take]; omega
 rw [hl];refine sumTo_congr (fun p hp => ?_);rw [List.getD, List.getD, List.getElem?_take_of_lt hp]
theorem sumTo_le {g : Nat → Nat} {b : Nat} (h : ∀ p, g p ≤ b) : ∀ n, sumTo g n ≤ n * b
 | 0 => Nat.zero_le _
 | n + 1 => by
  have := sumTo_le h n;have := h n;rw [sumTo, Nat.succ_mul];omega
theorem sum_map_le {f : Nat → Nat} {b : Nat} : ∀ {l : List Nat}, (∀ x ∈ l, f x ≤ b) → (l.map f).sum ≤ l.length * b
 | [], _ => Nat.zero_le _
 | x :: l, h => by
  have h1 := sum_map_le (l := l) (fun y hy => h y (List.mem_cons_of_mem _ hy));have h2 := h x (List.mem_cons_self ..);rw [List.map_cons, List.sum_cons, List.length_cons, Nat.succ_mul];omega
/-- what lengths cost -/
def costS (cnt : Nat → Nat) (len most : Nat) : Nat := sumTo (fun s => lens cnt len most s * cnt s) len
theorem best_is {cnt : Nat → Nat} {len most : Nat} (hn : 2 ≤ (used cnt len).length) (hl : len ≤ 300) (hm : 1 ≤ most) (hm2 : most ≤ 15) (h : (used cnt len).length ≤ 2 ^ most) (hc : ∀ s, s < len → cnt s ≤ 1048576) {rest : Nat → Nat}
  (hr : ∀ p, p ≤ (used cnt len).length → rest p = cost ((Srt.srt ky (coins cnt len)).take ((used cnt len).length - p))) :
  bst rest (used cnt len).length most 0 2 = costS cnt len most := by
 obtain ⟨l1, l2, _, cs, k1, k2, k3, k4, k5, k6⟩ := lens_many hn hm h;obtain ⟨n, hn0⟩ : ∃ n, (used cnt len).length = n := ⟨_, rfl⟩;rw [hn0] at hn h hr k2 k4 k6 ⊢;have hTl : (order cnt len).length = n := by rw [(order_perm cnt len).length_eq, hn0]
 have hCl : (Srt.srt ky (coins cnt len)).length = n := by rw [sorted_coins, List.length_map, hTl]
 have hn3 : n ≤ 300 := by
  rw [← hn0];have : (used cnt len).length ≤ len := by
   have := List.length_filter_le (fun i => decide (0 < cnt i)) (List.range len);rw [List.length_range] at this;exact this
  omega
 have hg : ∀ p, (fun p => cnt ((order cnt len).getD p 0)) p ≤ 1048576 := by
  intro p;rcases Nat.lt_or_ge p n with q | q
  ·have hm : (order cnt len).getD p 0 ∈ used cnt len := by
    rw [← (order_perm cnt len).mem_iff, List.getD, List.getElem?_eq_getElem (by omega)];exact List.getElem_mem _
   exact hc _ (mem_used.1 hm).1
  ·simp only [];rw [List.getD, List.getElem?_eq_none (by omega)];simp only [Option.getD_none];rcases Nat.lt_or_ge 0 len with r | r
   ·exact hc 0 r
   ·exfalso
    have : len = 0 := by omega
    subst this;simp [used] at hn0;omega
 have hcost : ∀ z, z ≤ n → cost ((Srt.srt ky (coins cnt len)).take z) = sumTo (fun p => cnt ((order cnt len).getD p 0)) z := fun z hz => cost_take cnt len z (by omega);have htot : (cs.map fun z => cost ((Srt.srt ky (coins cnt len)).take z)).sum < never := by
  have h1 : ∀ z ∈ cs, cost ((Srt.srt ky (coins cnt len)).take z) ≤ 300 * 1048576 := by
   intro z hz;rw [hcost z (k2 z hz)];exact Nat.le_trans (sumTo_le hg z) (Nat.mul_le_mul_right _ (Nat.le_trans (k2 z hz) hn3))
  have h2 := sum_map_le (f := fun z => cost ((Srt.srt ky (coins cnt len)).take z)) h1;rw [k1] at h2;have h3 : most * (300 * 1048576) ≤ 15 * (300 * 1048576) := Nat.mul_le_mul_right _ hm2;unfold never;omega
 -- what lengths cost, by levels
 have hcs : costS cnt len most = (cs.map fun z => cost ((Srt.srt ky (coins cnt len)).take z)).sum := by
  have e1 : costS cnt len most = sumTo (fun i => if 0 < cnt i then lens cnt len most i * cnt i else 0) len := by
   refine sumTo_congr (fun i hi => ?_);split
   ·rfl
   ·rename_i q;rw [show cnt i = 0 by omega, Nat.mul_zero]
  have e2 := sum_used (fun i => lens cnt len most i * cnt i) cnt len;have e3 : ((used cnt len).map fun i => lens cnt len most i * cnt i).sum = ((order cnt len).map fun i => lens cnt len most i * cnt i).sum := (sum_map_perm (order_perm cnt len)).symm;have e4 := sum_pos (fun i => lens cnt len most i * cnt i) (order cnt len);rw [e1, ← e2, e3, e4, hTl];have e5 : sumTo (fun p => (fun i => lens cnt len most i * cnt i) ((order cnt len).getD p 0)) n = sumTo (fun p => lv cs p * (fun p => cnt ((order cnt len).getD p 0)) p) n := by
   refine sumTo_congr (fun p hp => ?_);have hk := k5 p (by omega);simp only [];rw [← hk, List.getD, List.getElem?_eq_getElem (by omega)];rfl
  rw [e5, lv_sum _ k2];congr 1
  exact List.map_congr_left (fun z hz => (hcost z (k2 z hz)).symm)
 obtain ⟨c, cs', rfl⟩ : ∃ c cs', cs = c :: cs' := by
  cases cs with
  | nil => simp at k1; omega
  | cons c cs' => exact ⟨c, cs', rfl⟩
 have hlen : cs'.length = most - 1 := by simp at k1; omega
 have hcn : c = n := by
  have hp : n - 1 < (order cnt len).length := by omega
  have hk := k5 (n - 1) hp;have hmem : (order cnt len)[n - 1] ∈ used cnt len := by rw [← (order_perm cnt len).mem_iff]; exact List.getElem_mem _
  have h1 := (l1 _ hmem).1;rw [hk] at h1;have h2 := k2 c (List.mem_cons_self ..);rcases Nat.lt_or_ge c n with q | q
  ·have : lv (c :: cs') (n - 1) = 0 := lv_none (fun z hz => by
    rcases List.mem_cons.1 hz with rfl | hz
    ·omega
    ·have := k3.1 z hz; omega)
   omega
  ·omega
 subst hcn;have hhi := high (C := Srt.srt ky (coins cnt len)) hr cs' c (2 * c - 2) (Nat.le_refl _) k3 (by rw [hlen]; exact k4) htot;rw [hlen, Nat.sub_self, show 2 * c - (2 * c - 2) = 2 by omega, show most - 1 + 1 = most by omega] at hhi;have hlo := low (C := Srt.srt ky (coins cnt len)) (Srt.srt_up _) hCl hr most 0 2 (Nat.zero_le _) (by omega);rw [Nat.sub_zero, k6] at hlo;rw [hcs];omega
/-- a number laid into a falling row, behind those alike -/
def ins (x : Nat) : List Nat → List Nat
 | [] => [x]
 | y :: l => if x ≤ y then y :: ins x l else x :: y :: l
def fall (cnt : Nat → Nat) : Nat → List Nat
 | 0 => []
 | n + 1 => if cnt n = 0 then fall cnt n else ins (cnt n) (fall cnt n)
theorem ins_perm (x : Nat) : ∀ l, (ins x l).Perm (x :: l)
 | [] => List.Perm.refl _
 | y :: l => by
  unfold ins;split
  ·exact ((ins_perm x l).cons y).trans (List.Perm.swap x y l)
  ·exact List.Perm.refl _
theorem ins_down (x : Nat) : ∀ {l : List Nat}, l.Pairwise (fun a b => b ≤ a) → (ins x l).Pairwise (fun a b => b ≤ a)
 | [], _ => List.pairwise_singleton _ _
 | y :: l, h => by
  obtain ⟨h1, h2⟩ := List.pairwise_cons.1 h;unfold ins;split
  ·rename_i q;refine List.pairwise_cons.2 ⟨fun z hz => ?_, ins_down x h2⟩;rcases List.mem_cons.1 ((ins_perm x l).mem_iff.1 hz) with rfl | r
   ·exact q
   ·exact h1 z r
  ·rename_i q;refine List.pairwise_cons.2 ⟨fun z hz => ?_, h⟩;rcases List.mem_cons.1 hz with rfl | r
   ·omega
   ·have := h1 z r; omega
theorem fall_down (cnt : Nat → Nat) : ∀ n, (fall cnt n).Pairwise (fun a b => b ≤ a)
 | 0 => List.Pairwise.nil
 | n + 1 => by
  unfold fall;split
  ·exact fall_down cnt n
  ·exact ins_down _ (fall_down cnt n)
theorem used_succ (cnt : Nat → Nat) (n : Nat) : used cnt (n + 1) = used cnt n ++ (if 0 < cnt n then [n] else []) := by
 unfold used;rw [List.range_succ, List.filter_append];congr 1
 by_cases h : 0 < cnt n <;> simp [h]
theorem fall_perm (cnt : Nat → Nat) : ∀ n, (fall cnt n).Perm ((used cnt n).map cnt)
 | 0 => by simp [fall, used]
 | n + 1 => by
  unfold fall;rw [used_succ, List.map_append];split
  ·rename_i q;rw [if_neg (by omega)];simpa using fall_perm cnt n
  ·rename_i q;rw [if_pos (by omega)];exact (ins_perm _ _).trans (((fall_perm cnt n).cons _).trans (List.perm_append_singleton _ _).symm)
theorem fall_length (cnt : Nat → Nat) (n : Nat) : (fall cnt n).length = (used cnt n).length := by rw [(fall_perm cnt n).length_eq, List.length_map]
theorem fall_is (cnt : Nat → Nat) (len : Nat) : fall cnt len = ((order cnt len).map cnt).reverse := by
 refine List.Perm.eq_of_pairwise (le := fun a b => b ≤ a) (fun a b _ _ h1 h2 => by omega) (fall_down cnt len) ?_ ?_
 ·rw [List.pairwise_reverse];have h := Srt.srt_up (k := fun i => (cnt i : Int)) (used cnt len);have h2 : (order cnt len).Pairwise (fun a b => (cnt a : Int) ≤ (cnt b : Int)) := h;rw [List.pairwise_map];exact h2.imp (fun q => by omega)
 ·exact (fall_perm cnt len).trans (((order_perm cnt len).symm.map cnt).trans (List.reverse_perm _).symm)
theorem fall_rest (cnt : Nat → Nat) (len p : Nat) (hp : p ≤ (used cnt len).length) : ((fall cnt len).drop p).sum = cost ((Srt.srt ky (coins cnt len)).take ((used cnt len).length - p)) := by
 have hTl : (order cnt len).length = (used cnt len).length := (order_perm cnt len).length_eq;rw [fall_is, sorted_coins, ← List.map_take];have e : ((order cnt len).map cnt).reverse.drop p = (((order cnt len).map cnt).take ((used cnt len).length - p)).reverse := by
  rw [List.drop_reverse, List.length_map, hTl]
 rw [e, List.sum_reverse, ← List.map_take];unfold cost;rw [List.map_map];rfl
end Hb
end Go.Proofs.YtdeiolagnheihaaDoor
namespace Go.Proofs.YtdeiolagnheihaaDoor
open Go.RowKit
/-- of the blocks that were there only those in S may have turned -/
structure Keeps (S : Nat → Prop) (w w' : World) : Prop where
 os : w'.os = w.os
 tape : w'.tape = w.tape
 output : w'.output = w.output
 size : w.heap.size ≤ w'.heap.size
 block : ∀ k, k < w.heap.size → ¬ S k → w'.heap[k]? = w.heap[k]?
theorem Keeps.refl (S : Nat → Prop) (w : World) : Keeps S w w := ⟨rfl, rfl, rfl, Nat.le_refl _, fun _ _ _ => rfl⟩
theorem Keeps.trans {S S' : Nat → Prop} {a b c : World} (h : Keeps S a b) (k : Keeps S' b c) (hs : ∀ i, i < a.heap.size → S' i → S i) : Keeps S a c :=
 ⟨k.os.trans h.os, k.tape.trans h.tape, k.output.trans h.output, Nat.le_trans h.size k.size,
  fun i hi hn => (k.block i (Nat.lt_of_lt_of_le hi h.size) fun q => hn (hs i hi q)).trans (h.block i hi hn)⟩
theorem Keeps.mono {S S' : Nat → Prop} {a b : World} (h : Keeps S a b) (hs : ∀ i, i < a.heap.size → S i → S' i) : Keeps S' a b :=
 ⟨h.os, h.tape, h.output, h.size, fun i hi hn => h.block i hi fun q => hn (hs i hi q)⟩
theorem Keeps.grown {a b : World} {row : Option Nat} (h : a.grownBy b row) : Keeps (fun k => row = some k) a b :=
 ⟨h.os, h.tape, h.output, h.size, fun i hi hn => h.block i hi fun e => hn e.symm⟩
theorem Keeps.alloc {S : Nat → Prop} {a b : World} (h : Keeps S a b) (o : Obj) : Keeps S a (b.alloc o) :=
 ⟨h.os, h.tape, h.output, by have := h.size; simp; omega, fun i hi hn => (Below.heap_alloc _ _ _ (Nat.lt_of_lt_of_le hi h.size)).trans (h.block i hi hn)⟩
theorem Keeps.drewN {S : Nat → Prop} {a b : World} (h : Keeps S a b) (n : Nat) : Keeps S a (b.drewN n) := ⟨h.os, h.tape, h.output, h.size, h.block⟩
theorem Keeps.drew {S : Nat → Prop} {a b : World} (h : Keeps S a b) : Keeps S a b.drew := ⟨h.os, h.tape, h.output, h.size, h.block⟩
theorem Keeps.setCell {S : Nat → Prop} {a b : World} (h : Keeps S a b) {p : Addr} (hp : S p.block ∨ a.heap.size ≤ p.block) (u : Value) : Keeps S a (b.setCell p u) :=
 ⟨h.os, h.tape, h.output, by simpa using h.size, fun i hi hn => (Below.heap_setCell _ _ _ _ (fun e => by subst e; rcases hp with hp | hp; exact hn hp; omega)).trans (h.block i hi hn)⟩
theorem Keeps.below {S : Nat → Prop} {a b : World} (h : Keeps S a b) {B : Nat} (hB : B ≤ a.heap.size) (hs : ∀ k, k < B → ¬ S k) : Below B a b :=
 ⟨h.os, h.tape, h.output, h.size, fun k hk => h.block k (by omega) (hs k hk)⟩
theorem Keeps.of_below {B : Nat} {a b : World} (h : Below B a b) : Keeps (fun k => B ≤ k) a b :=
 ⟨h.os, h.tape, h.output, h.size, fun k _ hn => h.block k (by omega)⟩
theorem Keeps.cell {S : Nat → Prop} {a b : World} (h : Keeps S a b) {p : Addr} (hp : p.block < a.heap.size) (hn : ¬ S p.block) : b.cell? p = a.cell? p :=
 World.cell?_of_block (w := a) (h.block p.block hp hn)
theorem Keeps.frozen {S : Nat → Prop} {a b : World} (h : Keeps S a b) {p : Addr} (hp : p.block < a.heap.size) (hn : ¬ S p.block) : b.frozen? p = a.frozen? p :=
 World.frozen?_of_block (w := a) (h.block p.block hp hn)
def Ext (w w' : World) : Prop := Below w.heap.size w w'
theorem Ext.refl (w : World) : Ext w w := Below.refl _ _
theorem Ext.trans {a b c : World} (h : Ext a b) (k : Ext b c) : Ext a c := Below.trans h (Below.mono k h.size)
theorem Ext.alloc {a b : World} (h : Ext a b) (o : Obj) : Ext a (b.alloc o) := Below.alloc h h.size o
theorem Ext.drewN {a b : World} (h : Ext a b) (n : Nat) : Ext a (b.drewN n) := below_drewN h n
theorem Ext.keeps {S : Nat → Prop} {a b : World} (h : Ext a b) : Keeps S a b := (Keeps.of_below h).mono fun i hi q => by have : a.heap.size ≤ i := q; omega
theorem ret_bool {a b : Bool} (h : a = b) : Ending.returned (.bool a) = .returned (.bool b) := by rw [h]
theorem val_int {k : IntKind} {a b : Int} (h : a = b) : Value.int k a = Value.int k b := by rw [h]
theorem ownsRow_kept {S : Nat → Prop} {w w' : World} {base : Nat} {e : TypeId} {size : Nat} {v : Value} {n : Nat} {xs : List Value}
  (h : w.ownsRow base e size v n xs) (hk : Keeps S w w') (hn : ∀ k, v.ownBlock = some k → ¬ S k) : w'.ownsRow base e size v n xs := by
 obtain ⟨h1, h2⟩ := h;refine ⟨h1, ?_⟩;rcases h2 with h2 | ⟨g, cap, cur, hv, hg, hh, r⟩
 ·exact Or.inl h2
 ·subst hv;have hlt : g < w.heap.size := lt_of_block hh;exact Or.inr ⟨g, cap, cur, rfl, hg, by rw [hk.block g hlt (hn g rfl)]; exact hh, r⟩
/-- a row that holds something begins at the head of a block -/
theorem ownsRow_some {w : World} {base : Nat} {e : TypeId} {size : Nat} {v : Value} {n : Nat} {xs : List Value}
  (h : w.ownsRow base e size v n xs) (hn : 0 < n) : ∃ g cap, v = .slice (some ⟨g, 0, none⟩) n cap ∧ n ≤ cap ∧ g < w.heap.size := by
 rcases h.2 with ⟨_, h0⟩ | ⟨g, cap, cur, hv, _, hh, hc, _⟩
 ·omega
 ·exact ⟨g, cap, hv, hc, lt_of_block hh⟩
theorem ownsRow_slice {w : World} {base : Nat} {e : TypeId} {size : Nat} {v : Value} {n : Nat} {xs : List Value}
  (h : w.ownsRow base e size v n xs) : (v = .slice none 0 0 ∧ n = 0) ∨ ∃ g cap, v = .slice (some ⟨g, 0, none⟩) n cap := by
 rcases h.2 with h0 | ⟨g, cap, cur, hv, _⟩
 ·exact .inl h0
 ·exact .inr ⟨g, cap, hv⟩
theorem add_plain (b j : Nat) : (⟨b, 0, none⟩ : Addr).add j = ⟨b, j, none⟩ := by unfold Addr.add; split <;> simp_all
/-- the world under a name: what is said of it is all that is known -/
theorem wp_world {P : Program} {c : Code} {Q : Exit → Act → World → Prop} {a : Act} {W : World} (F : World → Prop) (h1 : F W) (h2 : ∀ wz, F wz → Code.wp P c Q a wz) : Code.wp P c Q a W := h2 W h1
theorem calls_world {P : Program} {f : Nat} {args : Array Value} {W : World} {Q : Ending → World → Prop} (F : World → Prop) (h1 : F W) (h2 : ∀ wz, F wz → Calls P f args wz Q) : Calls P f args W Q := h2 W h1
end Go.Proofs.YtdeiolagnheihaaDoor
namespace Go.Proofs.YtdeiolagnheihaaDoor
open Go.RowKit
@[irreducible] def cellsI (k : IntKind) (n : Nat) (f : Nat → Int) : Array Value := (List.map (fun i : Nat => Value.int k (f i)) (List.range n)).toArray
theorem cellsI_get (k : IntKind) (n : Nat) (f : Nat → Int) (i : Nat) (h : i < n) : (cellsI k n f)[i]? = some (.int k (f i)) := by
 unfold cellsI; simp [h]
@[go_sem] theorem cellsI_size (k : IntKind) (n : Nat) (f : Nat → Int) : (cellsI k n f).size = n := by unfold cellsI; simp
@[go_sem] theorem cellsI_getElem (k : IntKind) (n : Nat) (f : Nat → Int) (i : Nat) (h : i < (cellsI k n f).size) : (cellsI k n f)[i] = .int k (f i) := by
 have e1 := cellsI_get k n f i (by rw [← cellsI_size k n f]; exact h);rw [Array.getElem?_eq_getElem h] at e1;exact Option.some.inj e1
theorem cellsI_set (k : IntKind) (n : Nat) (f : Nat → Int) (j : Nat) (x : Int) (g : Nat → Int) (hg : ∀ i, i < n → g i = if i = j then x else f i) : (cellsI k n f).setIfInBounds j (.int k x) = cellsI k n g := by
 apply Array.ext
 ·simp [cellsI_size]
 ·intro i h1 h2;have h3 : i < n := by simpa [cellsI_size] using h2
  have e2 := cellsI_get k n g i h3;have e1 := cellsI_get k n f i h3;rw [Array.getElem?_eq_getElem h2] at e2;rw [Array.getElem?_eq_getElem (by rw [cellsI_size]; exact h3)] at e1;rw [Option.some_inj] at e1 e2;rw [Array.getElem_setIfInBounds (by rw [cellsI_size]; exact h3), e2, e1, hg i h3];by_cases hij : j = i
  ·subst hij; simp
  ·rw [if_neg hij, if_neg (fun e => hij e.symm)]
theorem cellsI_zero (k : IntKind) (n : Nat) : Array.replicate n (Value.int k 0) = cellsI k n (fun _ => 0) := by
 unfold cellsI; apply Array.ext
 ·simp
 ·intro i h1 h2; simp
theorem cellsI_same (k : IntKind) (n : Nat) (F : Nat → Int) (j : Nat) (v : Value) (hv : v = .int k (F j)) : (cellsI k n F).setIfInBounds j v = cellsI k n F := by
 rw [hv]; exact cellsI_set k n F j (F j) F (fun i _ => by by_cases h : i = j <;> simp [h])
/-- a row of cells of one kind, none frozen -/
def Cs (w : World) (B n : Nat) (k : IntKind) (g : Nat → Int) : Prop := ∀ i, i < n → w.cell? ⟨B, i, none⟩ = some (.int k (g i)) ∧ w.frozen? ⟨B, i, none⟩ = false
theorem Cs.congr {w : World} {B n : Nat} {k : IntKind} {g g' : Nat → Int} (h : Cs w B n k g) (hg : ∀ i, i < n → g' i = g i) : Cs w B n k g' := by
 intro i hi; rw [hg i hi]; exact h i hi
theorem Cs.put {w : World} {B n : Nat} {k : IntKind} {g : Nat → Int} (h : Cs w B n k g) (j : Nat) (x : Int) (g' : Nat → Int) (hj : j < n) (hg : ∀ i, i < n → g' i = if i = j then x else g i) : Cs (w.setCell ⟨B, j, none⟩ (.int k x)) B n k g' := by
 intro i hi;obtain ⟨h1, h2⟩ := h i hi;rw [hg i hi, World.frozen?_setCell];refine ⟨?_, h2⟩;by_cases e : i = j
 ·subst e; rw [if_pos rfl]; exact World.cell?_setCell_same _ _ _ h1
 ·rw [if_neg e]; exact (World.cell?_setCell_other _ _ _ _ (by intro q; injection q with _ q2; exact e q2.symm)).trans h1
theorem Cs.other {w : World} {B n : Nat} {k : IntKind} {g : Nat → Int} (h : Cs w B n k g) (p : Addr) (v : Value) (hp : p.block ≠ B) : Cs (w.setCell p v) B n k g := by
 intro i hi;obtain ⟨h1, h2⟩ := h i hi;rw [World.frozen?_setCell];exact ⟨(World.cell?_setCell_other _ _ _ _ (by intro q; rw [q] at hp; exact hp rfl)).trans h1, h2⟩
theorem Cs.drew {w : World} {B n : Nat} {k : IntKind} {g : Nat → Int} (h : Cs w B n k g) : Cs w.drew B n k g := h
theorem Cs.alloc {w : World} {B n : Nat} {k : IntKind} {g : Nat → Int} (h : Cs w B n k g) (hB : B < w.heap.size) (o : Obj) : Cs (w.alloc o) B n k g := by
 intro i hi;rw [World.cell?_alloc_past _ _ _ hB, World.frozen?_alloc_past _ _ _ hB]; exact h i hi
theorem Cs.born (w : World) (k : IntKind) (n : Nat) (g : Nat → Int) (t : TypeId) : Cs (w.alloc (.cells (cellsI k n g) t)) w.heap.size n k g := by
 intro i hi;rw [World.cell?_alloc_at _ _ _ _ rfl, World.frozen?_alloc_at _ _ _ _ rfl]; exact ⟨cellsI_get k n g i hi, rfl⟩
theorem made_eq (k : IntKind) (n : Nat) : madeCells #[Value.int k 0] n = cellsI k n (fun _ => 0) := by
 apply Array.ext
 ·rw [size_madeCells, cellsI_size]
 ·intro i h1 h2;rw [cellsI_getElem]; simp [madeCells, Nat.mod_one]
theorem still_of {P : Program} {f : Nat} {args : Array Value} {w : World} {v : Value} (h : Calls P f args w fun e w' => e = .returned v ∧ w = w') : Calls P f args w fun e w' => e = .returned v ∧ w' = w :=
 h.mono fun _ _ ⟨a, b⟩ => ⟨a, b.symm⟩
end Go.Proofs.YtdeiolagnheihaaDoor
