/-
  Small laws on memory: which blocks a call may have turned. No function of the program is named.
  Plain law of pixels over pixels: the numbers. No program in sight.
  Contracts of package pixel's Over, and of what it calls: what they compute; new blocks alone are made.
  Pixels as four numbers. No function of the program is named.
  What Over's own variables hold while it runs.
  Contract of pixel.Over at mode 0: what it computes; new blocks alone are made.
  Contract of pixel.Over at mode 1: what it computes; new blocks alone are made.
  Contract of pixel.Over at mode 2: what it computes; new blocks alone are made.
  Contract of pixel.Over at mode 3: what it computes; new blocks alone are made.
  Contract of pixel.Over at mode 4: what it computes; new blocks alone are made.
  Contract of pixel.Over at mode 5: what it computes; new blocks alone are made.
-/
import Derived.Test.YteacjlalekbhpaaDoorProg
import Derived.WalkKit
import Derived.WalkSpells
import Derived.WalkSmall
import Derived.Lib.Hide
import Derived.Deep.QuietTactic
import Derived.BigQuiet
import Derived.RegionTactic
import Derived.WalkLawsBesides
import Derived.Maps.AppendAt
import Derived.Laws.EntriesVeiled
import Derived.StillTailTactics
import Derived.Deep.RegionHeld3
import Derived.Deep.DeepCutAuto
namespace Go.Proofs.YteacjlalekbhpaaDoor
open Go.RowKit
set_option linter.unusedSimpArgs false
/-- of the blocks that were there only those in S may have turned -/
structure Keeps (S : Nat → Prop) (w w' : World) : Prop where
  os : w'.os = w.os
  tape : w'.tape = w.tape
  output : w'.output = w.output
  size : w.heap.size ≤ w'.heap.size
  block : ∀ k, k < w.heap.size → ¬ S k → w'.heap[k]? = w.heap[k]?
theorem Keeps.refl (S : Nat → Prop) (w : World) : Keeps S w w := ⟨rfl, rfl, rfl, Nat.le_refl _, fun _ _ _ => rfl⟩
theorem Keeps.trans {S S' : Nat → Prop} {a b c : World} (h : Keeps S a b) (k : Keeps S' b c) (hs : ∀ i, i < a.heap.size → S' i → S i) : Keeps S a c :=
  ⟨k.os.trans h.os, k.tape.trans h.tape, k.output.trans h.output, Nat.le_trans h.size k.size,
    fun i hi hn => (k.block i (Nat.lt_of_lt_of_le hi h.size) fun q => hn (hs i hi q)).trans (h.block i hi hn)⟩
theorem Keeps.mono {S S' : Nat → Prop} {a b : World} (h : Keeps S a b) (hs : ∀ i, i < a.heap.size → S i → S' i) : Keeps S' a b :=
  ⟨h.os, h.tape, h.output, h.size, fun i hi hn => h.block i hi fun q => hn (hs i hi q)⟩
theorem Keeps.grown {a b : World} {row : Option Nat} (h : a.grownBy b row) : Keeps (fun k => row = some k) a b :=
  ⟨h.os, h.tape, h.output, h.size, fun i hi hn => h.block i hi fun e => hn e.symm⟩
theorem Keeps.alloc {S : Nat → Prop} {a b : World} (h : Keeps S a b) (o : Obj) : Keeps S a (b.alloc o) :=
  ⟨h.os, h.tape, h.output, by have := h.size; simp; omega, fun i hi hn => (Below.heap_alloc _ _ _ (Nat.lt_of_lt_of_le hi h.size)).trans (h.block i hi hn)⟩
theorem Keeps.drewN {S : Nat → Prop} {a b : World} (h : Keeps S a b) (n : Nat) : Keeps S a (b.drewN n) := ⟨h.os, h.tape, h.output, h.size, h.block⟩
theorem Keeps.drew {S : Nat → Prop} {a b : World} (h : Keeps S a b) : Keeps S a b.drew := ⟨h.os, h.tape, h.output, h.size, h.block⟩
theorem Keeps.setCell {S : Nat → Prop} {a b : World} (h : Keeps S a b) {p : Addr} (hp : S p.block ∨ a.heap.size ≤ p.block) (u : Value) : Keeps S a (b.setCell p u) :=
  ⟨h.os, h.tape, h.output, by simpa using h.size, fun i hi hn => (Below.heap_setCell _ _ _ _ (fun e => by subst e; rcases hp with hp | hp; exact hn hp; omega)).trans (h.block i hi hn)⟩
theorem Keeps.below {S : Nat → Prop} {a b : World} (h : Keeps S a b) {B : Nat} (hB : B ≤ a.heap.size) (hs : ∀ k, k < B → ¬ S k) : Below B a b :=
  ⟨h.os, h.tape, h.output, h.size, fun k hk => h.block k (by omega) (hs k hk)⟩
theorem Keeps.of_below {B : Nat} {a b : World} (h : Below B a b) : Keeps (fun k => B ≤ k) a b :=
  ⟨h.os, h.tape, h.output, h.size, fun k _ hn => h.block k (by omega)⟩
theorem Keeps.cell {S : Nat → Prop} {a b : World} (h : Keeps S a b) {p : Addr} (hp : p.block < a.heap.size) (hn : ¬ S p.block) : b.cell? p = a.cell? p :=
  World.cell?_of_block (w := a) (h.block p.block hp hn)
theorem Keeps.frozen {S : Nat → Prop} {a b : World} (h : Keeps S a b) {p : Addr} (hp : p.block < a.heap.size) (hn : ¬ S p.block) : b.frozen? p = a.frozen? p :=
  World.frozen?_of_block (w := a) (h.block p.block hp hn)
def Ext (w w' : World) : Prop := Below w.heap.size w w'
theorem Ext.refl (w : World) : Ext w w := Below.refl _ _
theorem Ext.trans {a b c : World} (h : Ext a b) (k : Ext b c) : Ext a c := Below.trans h (Below.mono k h.size)
theorem Ext.alloc {a b : World} (h : Ext a b) (o : Obj) : Ext a (b.alloc o) := Below.alloc h h.size o
theorem Ext.drewN {a b : World} (h : Ext a b) (n : Nat) : Ext a (b.drewN n) := below_drewN h n
theorem Ext.keeps {S : Nat → Prop} {a b : World} (h : Ext a b) : Keeps S a b := (Keeps.of_below h).mono fun i hi q => by have : a.heap.size ≤ i := q; omega
theorem ret_int {k : IntKind} {a b : Int} (h : a = b) : Ending.returned (.int k a) = .returned (.int k b) := by rw [h]
theorem ret_bool {a b : Bool} (h : a = b) : Ending.returned (.bool a) = .returned (.bool b) := by rw [h]
theorem val_int {k : IntKind} {a b : Int} (h : a = b) : Value.int k a = Value.int k b := by rw [h]
theorem ownsRow_kept {S : Nat → Prop} {w w' : World} {base : Nat} {e : TypeId} {size : Nat} {v : Value} {n : Nat} {xs : List Value}
    (h : w.ownsRow base e size v n xs) (hk : Keeps S w w') (hn : ∀ k, v.ownBlock = some k → ¬ S k) : w'.ownsRow base e size v n xs := by
  obtain ⟨h1, h2⟩ := h
  refine ⟨h1, ?_⟩
  rcases h2 with h2 | ⟨g, cap, cur, hv, hg, hh, r⟩
  · exact Or.inl h2
  · subst hv
    have hlt : g < w.heap.size := lt_of_block hh
    exact Or.inr ⟨g, cap, cur, rfl, hg, by rw [hk.block g hlt (hn g rfl)]; exact hh, r⟩
theorem ownsRow_lt {w : World} {base : Nat} {e : TypeId} {size : Nat} {v : Value} {n : Nat} {xs : List Value}
    (h : w.ownsRow base e size v n xs) {k : Nat} (hk : v.ownBlock = some k) : k < w.heap.size := (h.lt k hk).2
/-- a row that holds something begins at the head of a block -/
theorem ownsRow_some {w : World} {base : Nat} {e : TypeId} {size : Nat} {v : Value} {n : Nat} {xs : List Value}
    (h : w.ownsRow base e size v n xs) (hn : 0 < n) : ∃ g cap, v = .slice (some ⟨g, 0, none⟩) n cap ∧ n ≤ cap ∧ g < w.heap.size := by
  rcases h.2 with ⟨_, h0⟩ | ⟨g, cap, cur, hv, _, hh, hc, _⟩
  · omega
  · exact ⟨g, cap, hv, hc, lt_of_block hh⟩
theorem ownsRow_slice {w : World} {base : Nat} {e : TypeId} {size : Nat} {v : Value} {n : Nat} {xs : List Value}
    (h : w.ownsRow base e size v n xs) : (v = .slice none 0 0 ∧ n = 0) ∨ ∃ g cap, v = .slice (some ⟨g, 0, none⟩) n cap := by
  rcases h.2 with h0 | ⟨g, cap, cur, hv, _⟩
  · exact .inl h0
  · exact .inr ⟨g, cap, hv⟩
theorem add_plain (b j : Nat) : (⟨b, 0, none⟩ : Addr).add j = ⟨b, j, none⟩ := by unfold Addr.add; split <;> simp_all
/-- the world under a name: what is said of it is all that is known -/
theorem wp_world {P : Program} {c : Code} {Q : Exit → Act → World → Prop} {a : Act} {W : World} (F : World → Prop) (h1 : F W) (h2 : ∀ wz, F wz → Code.wp P c Q a wz) : Code.wp P c Q a W := h2 W h1
theorem calls_world {P : Program} {f : Nat} {args : Array Value} {W : World} {Q : Ending → World → Prop} (F : World → Prop) (h1 : F W) (h2 : ∀ wz, F wz → Calls P f args wz Q) : Calls P f args W Q := h2 W h1
end Go.Proofs.YteacjlalekbhpaaDoor
namespace Pix
set_option linter.unusedSimpArgs false
/-- 255 times what two colors make, by mode -/
def blend (mode s d : Int) : Int :=
  if mode = 0 then 255 * s else if mode = 1 then s * d else if mode = 2 then 255 * (s + d) - s * d
  else if mode = 3 then 255 * min s d else if mode = 4 then 255 * max s d else 255 * max (s - d) (d - s)
/-- a part of two numbers, halves up, as a byte -/
def rnd (n of : Int) : Int := (2 * n + of) / (2 * of) % 256
def covers (a b : Int) : Int := 255 * a + b * (255 - a)
def num (mode a b s d : Int) : Int := 255 * (a * (255 - b) * s + b * (255 - a) * d) + a * b * blend mode s d
def color (mode a b s d : Int) : Int := rnd (num mode a b s d) (255 * covers a b)
def Byte (x : Int) : Prop := 0 ≤ x ∧ x ≤ 255
theorem mul_bd {x y X Y : Int} (hx0 : 0 ≤ x) (hx : x ≤ X) (hy0 : 0 ≤ y) (hy : y ≤ Y) : 0 ≤ x * y ∧ x * y ≤ X * Y :=
  ⟨Int.mul_nonneg hx0 hy0, Int.mul_le_mul hx hy hy0 (by omega)⟩
theorem blend_bd {m s d : Int} (hs : Byte s) (hd : Byte d) : 0 ≤ blend m s d ∧ blend m s d ≤ 65025 := by
  obtain ⟨s0, s1⟩ := hs; obtain ⟨d0, d1⟩ := hd
  have h := mul_bd s0 s1 d0 d1
  have h2 : (255 - s) * (255 - d) = 255 * 255 - 255 * d - 255 * s + s * d := by
    rw [Int.sub_mul, Int.mul_sub, Int.mul_sub]; omega
  have h3 := mul_bd (show 0 ≤ 255 - s by omega) (show 255 - s ≤ 255 by omega) (show 0 ≤ 255 - d by omega) (show 255 - d ≤ 255 by omega)
  unfold blend
  repeat' split
  all_goals omega
theorem covers_bd {a b : Int} (ha : Byte a) (hb : Byte b) : 0 ≤ covers a b ∧ covers a b ≤ 65025 := by
  obtain ⟨a0, a1⟩ := ha; obtain ⟨b0, b1⟩ := hb
  have h := mul_bd b0 b1 (show 0 ≤ 255 - a by omega) (show 255 - a ≤ 255 - a by omega)
  unfold covers; omega
theorem covers_comm (a b : Int) : covers a b = covers b a := by
  unfold covers; rw [Int.mul_sub, Int.mul_sub, Int.mul_comm b a]; omega
theorem covers_pos {a b : Int} (ha : Byte a) (hb : Byte b) (h : covers a b ≠ 0) : 1 ≤ covers a b := by
  have := (covers_bd ha hb).1; omega
theorem rnd_exact (q of : Int) (hof : 1 ≤ of) (hq : Byte q) : rnd (q * of) of = q := by
  unfold rnd
  have e : (2 * (q * of) + of) = of + q * (2 * of) := by
    rw [show q * (2 * of) = 2 * (q * of) by rw [← Int.mul_assoc, Int.mul_comm q 2, Int.mul_assoc]]; omega
  rw [e, Int.add_mul_ediv_right _ _ (by omega), Int.ediv_eq_zero_of_lt (by omega) (by omega)]
  obtain ⟨q0, q1⟩ := hq; omega
theorem rnd_byte (n of : Int) : Byte (rnd n of) := by unfold rnd Byte; omega
theorem rnd_of_le {n of B : Int} (hof : 1 ≤ of) (h0 : 0 ≤ n) (hB : n ≤ B * of) (hB1 : B ≤ 255) : rnd n of = (2 * n + of) / (2 * of) ∧ (2 * n + of) / (2 * of) ≤ B := by
  have h1 : (2 * n + of) / (2 * of) ≤ B := by
    have : 2 * n + of < (B + 1) * (2 * of) := by rw [Int.add_mul, show B * (2 * of) = 2 * (B * of) by rw [← Int.mul_assoc, Int.mul_comm B 2, Int.mul_assoc]]; omega
    have := Int.ediv_lt_of_lt_mul (by omega) this
    omega
  have h2 : 0 ≤ (2 * n + of) / (2 * of) := Int.ediv_nonneg (by omega) (by omega)
  exact ⟨by unfold rnd; omega, h1⟩
theorem rnd_ge {n of q : Int} (hof : 1 ≤ of) (h0 : 0 ≤ n) (hB : n ≤ 255 * of) (hq : q * of ≤ n) : q ≤ rnd n of := by
  rw [(rnd_of_le hof h0 hB (by omega)).1]
  refine (Int.le_ediv_iff_mul_le (by omega)).2 ?_
  rw [show q * (2 * of) = 2 * (q * of) by rw [← Int.mul_assoc, Int.mul_comm q 2, Int.mul_assoc]]; omega
/-- over nothing -/
theorem over_none (m a s : Int) (ha : 1 ≤ a) (ha1 : a ≤ 255) (hs : Byte s) : color m a 0 s 0 = s := by
  unfold color num covers
  simp only [Int.mul_zero, Int.zero_mul, Int.add_zero, Int.sub_zero]
  rw [show (255 : Int) * (a * 255 * s) = s * (255 * (255 * a)) by rw [Int.mul_comm a 255, Int.mul_comm s, Int.mul_assoc 255 (255 * a) s]]
  exact rnd_exact _ _ (by omega) hs
/-- under nothing -/
theorem under_none (m b d : Int) (hb : 1 ≤ b) (hb1 : b ≤ 255) (hd : Byte d) : color m 0 b 0 d = d := by
  unfold color num covers
  rw [Int.zero_mul, Int.zero_mul, Int.zero_mul, Int.zero_mul, Int.add_zero, Int.zero_add, Int.mul_zero, Int.zero_add]
  rw [show (255 : Int) * (b * (255 - 0) * d) = d * (255 * (b * (255 - 0))) by rw [Int.mul_comm d, Int.mul_assoc 255]]
  exact rnd_exact _ _ (by omega) hd
/-- what covers all hides all -/
theorem full_hides (b s d : Int) (hb : Byte b) (hs : Byte s) : color 0 255 b s d = s := by
  unfold color num covers blend
  obtain ⟨b0, b1⟩ := hb
  rw [if_pos rfl, show (255 - 255 : Int) = 0 by decide, Int.mul_zero, Int.zero_mul, Int.add_zero, Int.add_zero]
  have e : (255 : Int) * (255 * (255 - b) * s) + 255 * b * (255 * s) = s * (255 * (255 * 255)) := by
    rw [show (255 : Int) * (255 - b) = 255 * 255 - 255 * b by omega, Int.sub_mul, Int.mul_sub, show (255 : Int) * b * (255 * s) = 255 * (255 * b * s) by rw [← Int.mul_assoc, Int.mul_comm (255 * b) 255, Int.mul_assoc]]; omega
  rw [e]
  exact rnd_exact _ _ (by omega) hs
theorem blend_comm (m s d : Int) (h : m ≠ 0) : blend m s d = blend m d s := by
  unfold blend
  rw [if_neg h, if_neg h]
  repeat' split
  · rw [Int.mul_comm]
  · rw [Int.mul_comm s d, Int.add_comm s d]
  · rw [Int.min_comm]
  · rw [Int.max_comm]
  · rw [Int.max_comm]
theorem color_comm (m a s d : Int) (h : m ≠ 0) : color m a a s d = color m a a d s := by
  unfold color num
  rw [blend_comm m s d h, Int.add_comm (a * (255 - a) * s)]
theorem alpha_ge (a b : Int) (ha : Byte a) (hb : Byte b) : a ≤ rnd (covers a b) 255 := by
  have hc := covers_bd ha hb
  refine rnd_ge (by omega) hc.1 (by omega) ?_
  obtain ⟨a0, a1⟩ := ha; obtain ⟨b0, b1⟩ := hb
  have h := mul_bd b0 b1 (show 0 ≤ 255 - a by omega) (show 255 - a ≤ 255 by omega)
  unfold covers; omega
theorem num_bd {m a b s d : Int} (ha : Byte a) (hb : Byte b) (hs : Byte s) (hd : Byte d) : 0 ≤ num m a b s d ∧ num m a b s d ≤ 255 * (255 * covers a b) := by
  obtain ⟨a0, a1⟩ := ha; obtain ⟨b0, b1⟩ := hb
  have p1 := mul_bd a0 (Int.le_refl a) (show 0 ≤ 255 - b by omega) (Int.le_refl (255 - b))
  have p2 := mul_bd b0 (Int.le_refl b) (show 0 ≤ 255 - a by omega) (Int.le_refl (255 - a))
  have p3 := mul_bd a0 (Int.le_refl a) b0 (Int.le_refl b)
  have q1 := mul_bd p1.1 p1.2 hs.1 hs.2
  have q2 := mul_bd p2.1 p2.2 hd.1 hd.2
  have q3 := mul_bd p3.1 p3.2 (blend_bd (m := m) hs hd).1 (blend_bd (m := m) hs hd).2
  have e1 : a * (255 - b) = 255 * a - a * b := by rw [Int.mul_sub, Int.mul_comm a 255]
  have e2 : b * (255 - a) = 255 * b - a * b := by rw [Int.mul_sub, Int.mul_comm b 255, Int.mul_comm b a]
  unfold num covers
  omega
end Pix
namespace Go.Proofs.YteacjlalekbhpaaDoor
open Go.RowKit
set_option linter.unusedSimpArgs false
theorem round_any (n d : Int) (w : World) (h0 : 0 ≤ n) (h1 : n ≤ 1000000000000) (d0 : 1 ≤ d) (d1 : d ≤ 1000000000000) :
    Calls Tryd.prog 40 #[.int .i64 n, .int .i64 d] w fun e w' => e = .returned (.int .u8 (Pix.rnd n d)) ∧ w = w' := by
  go_enter Tryd.func40, Tryd.ntmps40
  go_wp2
  go_ret
  exact ⟨rfl, rfl⟩
theorem mode_any (m : Int) (w : World) : Calls Tryd.prog 37 #[.int .i64 m] w fun e w' => e = .returned (.bool (decide (0 ≤ m) && decide (m < 6))) ∧ w = w' := by
  go_enter Tryd.func37, Tryd.ntmps37
  go_wp2
  all_goals go_ret
  all_goals (refine ⟨ret_bool ?_, rfl⟩; simp; omega)
theorem blend0_any (s d : Int) (w : World) (hs : Pix.Byte s) (_hd : Pix.Byte d) : Calls Tryd.prog 51 #[.int .i64 s, .int .i64 d] w fun e w' => e = .returned (.int .i64 (Pix.blend 0 s d)) ∧ w = w' := by
  obtain ⟨s0, s1⟩ := hs
  go_enter Tryd.func51, Tryd.ntmps51
  go_wp2
  go_ret
  exact ⟨rfl, rfl⟩
theorem blend1_any (s d : Int) (w : World) (hs : Pix.Byte s) (hd : Pix.Byte d) : Calls Tryd.prog 52 #[.int .i64 s, .int .i64 d] w fun e w' => e = .returned (.int .i64 (Pix.blend 1 s d)) ∧ w = w' := by
  obtain ⟨p0, p1⟩ := Pix.mul_bd hs.1 hs.2 hd.1 hd.2
  go_enter Tryd.func52, Tryd.ntmps52
  go_wp2
  go_ret
  exact ⟨rfl, rfl⟩
theorem blend2_any (s d : Int) (w : World) (hs : Pix.Byte s) (hd : Pix.Byte d) : Calls Tryd.prog 53 #[.int .i64 s, .int .i64 d] w fun e w' => e = .returned (.int .i64 (Pix.blend 2 s d)) ∧ w = w' := by
  obtain ⟨p0, p1⟩ := Pix.mul_bd hs.1 hs.2 hd.1 hd.2
  obtain ⟨s0, s1⟩ := hs
  obtain ⟨d0, d1⟩ := hd
  go_enter Tryd.func53, Tryd.ntmps53
  go_wp2
  go_ret
  exact ⟨rfl, rfl⟩
theorem blend3_any (s d : Int) (w : World) (hs : Pix.Byte s) (hd : Pix.Byte d) : Calls Tryd.prog 54 #[.int .i64 s, .int .i64 d] w fun e w' => e = .returned (.int .i64 (Pix.blend 3 s d)) ∧ w = w' := by
  obtain ⟨s0, s1⟩ := hs
  obtain ⟨d0, d1⟩ := hd
  go_enter Tryd.func54, Tryd.ntmps54
  go_wp2
  all_goals (go_ret; exact ⟨ret_int (by simp [Pix.blend]; omega), rfl⟩)
theorem blend4_any (s d : Int) (w : World) (hs : Pix.Byte s) (hd : Pix.Byte d) : Calls Tryd.prog 55 #[.int .i64 s, .int .i64 d] w fun e w' => e = .returned (.int .i64 (Pix.blend 4 s d)) ∧ w = w' := by
  obtain ⟨s0, s1⟩ := hs
  obtain ⟨d0, d1⟩ := hd
  go_enter Tryd.func55, Tryd.ntmps55
  go_wp2
  all_goals (go_ret; exact ⟨ret_int (by simp [Pix.blend]; omega), rfl⟩)
theorem blend5_any (s d : Int) (w : World) (hs : Pix.Byte s) (hd : Pix.Byte d) : Calls Tryd.prog 56 #[.int .i64 s, .int .i64 d] w fun e w' => e = .returned (.int .i64 (Pix.blend 5 s d)) ∧ w = w' := by
  obtain ⟨s0, s1⟩ := hs
  obtain ⟨d0, d1⟩ := hd
  go_enter Tryd.func56, Tryd.ntmps56
  go_wp2
  all_goals (go_ret; exact ⟨ret_int (by simp [Pix.blend]; omega), rfl⟩)

theorem blends_any (w : World) : Calls Tryd.prog 38 #[] w fun e w' => e = .returned (.agg #[.func (.func 51) #[] #[], .func (.func 52) #[] #[], .func (.func 53) #[] #[], .func (.func 54) #[] #[], .func (.func 55) #[] #[], .func (.func 56) #[] #[]]) ∧ Below w.heap.size w w' := by
  go_enter Tryd.func38, Tryd.ntmps38
  go_wp2
  exact bodyPost_ret (v := .agg #[.func (.func 51) #[] #[], .func (.func 52) #[] #[], .func (.func 53) #[] #[], .func (.func 54) #[] #[], .func (.func 55) #[] #[], .func (.func 56) #[] #[]]) (by simp [results, Tryd.results38, go_sem]) rfl ⟨rfl, (Below.refl _ _).alloc (Nat.le_refl _) _⟩
/-- what the closure of Over captures: four variables, as they stand -/
def ColorCells (w : World) (pa pb pf pc : Addr) (a b c : Int) (f : FuncId) : Prop :=
  w.cell? pa = some (.int .i64 a) ∧ w.cell? pb = some (.int .i64 b) ∧ w.cell? pf = some (.func (.func f) #[] #[]) ∧ w.cell? pc = some (.int .i64 c)
set_option maxHeartbeats 1000000 in
theorem color0_any (s d a b : Int) (pa pb pf pc : Addr) (w : World) (hs : Pix.Byte s) (hd : Pix.Byte d) (ha : Pix.Byte a) (hb : Pix.Byte b) (hc : 1 ≤ Pix.covers a b)
    (hcells : ColorCells w pa pb pf pc a b (Pix.covers a b) 51) :
    Calls Tryd.prog 39 #[.int .u8 s, .int .u8 d, .pointer (some pa), .pointer (some pb), .pointer (some pf), .pointer (some pc)] w fun e w' => e = .returned (.int .u8 (Pix.color 0 a b s d)) ∧ ∃ n, w' = w.drewN n := by
  obtain ⟨h1, h2, h3, h4⟩ := hcells
  have hbl := Pix.blend_bd (m := 0) hs hd
  have hcv := Pix.covers_bd ha hb
  have hn := Pix.num_bd (m := 0) ha hb hs hd
  unfold Pix.num at hn
  have HB := Lib.hid (fun W => blend0_any s d W hs hd)
  obtain ⟨s0, s1⟩ := hs
  obtain ⟨d0, d1⟩ := hd
  obtain ⟨a0, a1⟩ := ha
  obtain ⟨b0, b1⟩ := hb
  have p1 := Pix.mul_bd a0 a1 (show 0 ≤ 255 - b by omega) (show 255 - b ≤ 255 by omega)
  have p2 := Pix.mul_bd b0 b1 (show 0 ≤ 255 - a by omega) (show 255 - a ≤ 255 by omega)
  have p3 := Pix.mul_bd a0 a1 b0 b1
  have q1 := Pix.mul_bd p1.1 p1.2 s0 s1
  have q2 := Pix.mul_bd p2.1 p2.2 d0 d1
  have q3 := Pix.mul_bd p3.1 p3.2 hbl.1 hbl.2
  have HF : Hid (Pix.color 0 a b s d = Pix.rnd (255 * (a * (255 - b) * s + b * (255 - a) * d) + a * b * Pix.blend 0 s d) (255 * Pix.covers a b)) := rfl
  generalize Pix.covers a b = c at *
  generalize Pix.blend 0 s d = t at *
  go_enter Tryd.func39, Tryd.ntmps39
  go_wp2
  go_quiet ((first | (go_at_call 51; exact (HB.out _).mono fun _ _ ⟨he, hm⟩ => ⟨he, _, hm.symm⟩) | (go_at_call 40; exact (round_any _ _ _ (by omega) (by omega) (by omega) (by omega)).mono fun _ _ ⟨he, hm⟩ => ⟨he, _, hm.symm⟩)))
  go_wp2
  go_ret
  exact ⟨by rw [HF.out]; rfl, _, rfl⟩
set_option maxHeartbeats 1000000 in
theorem color1_any (s d a b : Int) (pa pb pf pc : Addr) (w : World) (hs : Pix.Byte s) (hd : Pix.Byte d) (ha : Pix.Byte a) (hb : Pix.Byte b) (hc : 1 ≤ Pix.covers a b)
    (hcells : ColorCells w pa pb pf pc a b (Pix.covers a b) 52) :
    Calls Tryd.prog 39 #[.int .u8 s, .int .u8 d, .pointer (some pa), .pointer (some pb), .pointer (some pf), .pointer (some pc)] w fun e w' => e = .returned (.int .u8 (Pix.color 1 a b s d)) ∧ ∃ n, w' = w.drewN n := by
  obtain ⟨h1, h2, h3, h4⟩ := hcells
  have hbl := Pix.blend_bd (m := 1) hs hd
  have hcv := Pix.covers_bd ha hb
  have hn := Pix.num_bd (m := 1) ha hb hs hd
  unfold Pix.num at hn
  have HB := Lib.hid (fun W => blend1_any s d W hs hd)
  obtain ⟨s0, s1⟩ := hs
  obtain ⟨d0, d1⟩ := hd
  obtain ⟨a0, a1⟩ := ha
  obtain ⟨b0, b1⟩ := hb
  have p1 := Pix.mul_bd a0 a1 (show 0 ≤ 255 - b by omega) (show 255 - b ≤ 255 by omega)
  have p2 := Pix.mul_bd b0 b1 (show 0 ≤ 255 - a by omega) (show 255 - a ≤ 255 by omega)
  have p3 := Pix.mul_bd a0 a1 b0 b1
  have q1 := Pix.mul_bd p1.1 p1.2 s0 s1
  have q2 := Pix.mul_bd p2.1 p2.2 d0 d1
  have q3 := Pix.mul_bd p3.1 p3.2 hbl.1 hbl.2
  have HF : Hid (Pix.color 1 a b s d = Pix.rnd (255 * (a * (255 - b) * s + b * (255 - a) * d) + a * b * Pix.blend 1 s d) (255 * Pix.covers a b)) := rfl
  generalize Pix.covers a b = c at *
  generalize Pix.blend 1 s d = t at *
  go_enter Tryd.func39, Tryd.ntmps39
  go_wp2
  go_quiet ((first | (go_at_call 52; exact (HB.out _).mono fun _ _ ⟨he, hm⟩ => ⟨he, _, hm.symm⟩) | (go_at_call 40; exact (round_any _ _ _ (by omega) (by omega) (by omega) (by omega)).mono fun _ _ ⟨he, hm⟩ => ⟨he, _, hm.symm⟩)))
  go_wp2
  go_ret
  exact ⟨by rw [HF.out]; rfl, _, rfl⟩
set_option maxHeartbeats 1000000 in
theorem color2_any (s d a b : Int) (pa pb pf pc : Addr) (w : World) (hs : Pix.Byte s) (hd : Pix.Byte d) (ha : Pix.Byte a) (hb : Pix.Byte b) (hc : 1 ≤ Pix.covers a b)
    (hcells : ColorCells w pa pb pf pc a b (Pix.covers a b) 53) :
    Calls Tryd.prog 39 #[.int .u8 s, .int .u8 d, .pointer (some pa), .pointer (some pb), .pointer (some pf), .pointer (some pc)] w fun e w' => e = .returned (.int .u8 (Pix.color 2 a b s d)) ∧ ∃ n, w' = w.drewN n := by
  obtain ⟨h1, h2, h3, h4⟩ := hcells
  have hbl := Pix.blend_bd (m := 2) hs hd
  have hcv := Pix.covers_bd ha hb
  have hn := Pix.num_bd (m := 2) ha hb hs hd
  unfold Pix.num at hn
  have HB := Lib.hid (fun W => blend2_any s d W hs hd)
  obtain ⟨s0, s1⟩ := hs
  obtain ⟨d0, d1⟩ := hd
  obtain ⟨a0, a1⟩ := ha
  obtain ⟨b0, b1⟩ := hb
  have p1 := Pix.mul_bd a0 a1 (show 0 ≤ 255 - b by omega) (show 255 - b ≤ 255 by omega)
  have p2 := Pix.mul_bd b0 b1 (show 0 ≤ 255 - a by omega) (show 255 - a ≤ 255 by omega)
  have p3 := Pix.mul_bd a0 a1 b0 b1
  have q1 := Pix.mul_bd p1.1 p1.2 s0 s1
  have q2 := Pix.mul_bd p2.1 p2.2 d0 d1
  have q3 := Pix.mul_bd p3.1 p3.2 hbl.1 hbl.2
  have HF : Hid (Pix.color 2 a b s d = Pix.rnd (255 * (a * (255 - b) * s + b * (255 - a) * d) + a * b * Pix.blend 2 s d) (255 * Pix.covers a b)) := rfl
  generalize Pix.covers a b = c at *
  generalize Pix.blend 2 s d = t at *
  go_enter Tryd.func39, Tryd.ntmps39
  go_wp2
  go_quiet ((first | (go_at_call 53; exact (HB.out _).mono fun _ _ ⟨he, hm⟩ => ⟨he, _, hm.symm⟩) | (go_at_call 40; exact (round_any _ _ _ (by omega) (by omega) (by omega) (by omega)).mono fun _ _ ⟨he, hm⟩ => ⟨he, _, hm.symm⟩)))
  go_wp2
  go_ret
  exact ⟨by rw [HF.out]; rfl, _, rfl⟩
set_option maxHeartbeats 1000000 in
theorem color3_any (s d a b : Int) (pa pb pf pc : Addr) (w : World) (hs : Pix.Byte s) (hd : Pix.Byte d) (ha : Pix.Byte a) (hb : Pix.Byte b) (hc : 1 ≤ Pix.covers a b)
    (hcells : ColorCells w pa pb pf pc a b (Pix.covers a b) 54) :
    Calls Tryd.prog 39 #[.int .u8 s, .int .u8 d, .pointer (some pa), .pointer (some pb), .pointer (some pf), .pointer (some pc)] w fun e w' => e = .returned (.int .u8 (Pix.color 3 a b s d)) ∧ ∃ n, w' = w.drewN n := by
  obtain ⟨h1, h2, h3, h4⟩ := hcells
  have hbl := Pix.blend_bd (m := 3) hs hd
  have hcv := Pix.covers_bd ha hb
  have hn := Pix.num_bd (m := 3) ha hb hs hd
  unfold Pix.num at hn
  have HB := Lib.hid (fun W => blend3_any s d W hs hd)
  obtain ⟨s0, s1⟩ := hs
  obtain ⟨d0, d1⟩ := hd
  obtain ⟨a0, a1⟩ := ha
  obtain ⟨b0, b1⟩ := hb
  have p1 := Pix.mul_bd a0 a1 (show 0 ≤ 255 - b by omega) (show 255 - b ≤ 255 by omega)
  have p2 := Pix.mul_bd b0 b1 (show 0 ≤ 255 - a by omega) (show 255 - a ≤ 255 by omega)
  have p3 := Pix.mul_bd a0 a1 b0 b1
  have q1 := Pix.mul_bd p1.1 p1.2 s0 s1
  have q2 := Pix.mul_bd p2.1 p2.2 d0 d1
  have q3 := Pix.mul_bd p3.1 p3.2 hbl.1 hbl.2
  have HF : Hid (Pix.color 3 a b s d = Pix.rnd (255 * (a * (255 - b) * s + b * (255 - a) * d) + a * b * Pix.blend 3 s d) (255 * Pix.covers a b)) := rfl
  generalize Pix.covers a b = c at *
  generalize Pix.blend 3 s d = t at *
  go_enter Tryd.func39, Tryd.ntmps39
  go_wp2
  go_quiet ((first | (go_at_call 54; exact (HB.out _).mono fun _ _ ⟨he, hm⟩ => ⟨he, _, hm.symm⟩) | (go_at_call 40; exact (round_any _ _ _ (by omega) (by omega) (by omega) (by omega)).mono fun _ _ ⟨he, hm⟩ => ⟨he, _, hm.symm⟩)))
  go_wp2
  go_ret
  exact ⟨by rw [HF.out]; rfl, _, rfl⟩
set_option maxHeartbeats 1000000 in
theorem color4_any (s d a b : Int) (pa pb pf pc : Addr) (w : World) (hs : Pix.Byte s) (hd : Pix.Byte d) (ha : Pix.Byte a) (hb : Pix.Byte b) (hc : 1 ≤ Pix.covers a b)
    (hcells : ColorCells w pa pb pf pc a b (Pix.covers a b) 55) :
    Calls Tryd.prog 39 #[.int .u8 s, .int .u8 d, .pointer (some pa), .pointer (some pb), .pointer (some pf), .pointer (some pc)] w fun e w' => e = .returned (.int .u8 (Pix.color 4 a b s d)) ∧ ∃ n, w' = w.drewN n := by
  obtain ⟨h1, h2, h3, h4⟩ := hcells
  have hbl := Pix.blend_bd (m := 4) hs hd
  have hcv := Pix.covers_bd ha hb
  have hn := Pix.num_bd (m := 4) ha hb hs hd
  unfold Pix.num at hn
  have HB := Lib.hid (fun W => blend4_any s d W hs hd)
  obtain ⟨s0, s1⟩ := hs
  obtain ⟨d0, d1⟩ := hd
  obtain ⟨a0, a1⟩ := ha
  obtain ⟨b0, b1⟩ := hb
  have p1 := Pix.mul_bd a0 a1 (show 0 ≤ 255 - b by omega) (show 255 - b ≤ 255 by omega)
  have p2 := Pix.mul_bd b0 b1 (show 0 ≤ 255 - a by omega) (show 255 - a ≤ 255 by omega)
  have p3 := Pix.mul_bd a0 a1 b0 b1
  have q1 := Pix.mul_bd p1.1 p1.2 s0 s1
  have q2 := Pix.mul_bd p2.1 p2.2 d0 d1
  have q3 := Pix.mul_bd p3.1 p3.2 hbl.1 hbl.2
  have HF : Hid (Pix.color 4 a b s d = Pix.rnd (255 * (a * (255 - b) * s + b * (255 - a) * d) + a * b * Pix.blend 4 s d) (255 * Pix.covers a b)) := rfl
  generalize Pix.covers a b = c at *
  generalize Pix.blend 4 s d = t at *
  go_enter Tryd.func39, Tryd.ntmps39
  go_wp2
  go_quiet ((first | (go_at_call 55; exact (HB.out _).mono fun _ _ ⟨he, hm⟩ => ⟨he, _, hm.symm⟩) | (go_at_call 40; exact (round_any _ _ _ (by omega) (by omega) (by omega) (by omega)).mono fun _ _ ⟨he, hm⟩ => ⟨he, _, hm.symm⟩)))
  go_wp2
  go_ret
  exact ⟨by rw [HF.out]; rfl, _, rfl⟩
set_option maxHeartbeats 1000000 in
theorem color5_any (s d a b : Int) (pa pb pf pc : Addr) (w : World) (hs : Pix.Byte s) (hd : Pix.Byte d) (ha : Pix.Byte a) (hb : Pix.Byte b) (hc : 1 ≤ Pix.covers a b)
    (hcells : ColorCells w pa pb pf pc a b (Pix.covers a b) 56) :
    Calls Tryd.prog 39 #[.int .u8 s, .int .u8 d, .pointer (some pa), .pointer (some pb), .pointer (some pf), .pointer (some pc)] w fun e w' => e = .returned (.int .u8 (Pix.color 5 a b s d)) ∧ ∃ n, w' = w.drewN n := by
  obtain ⟨h1, h2, h3, h4⟩ := hcells
  have hbl := Pix.blend_bd (m := 5) hs hd
  have hcv := Pix.covers_bd ha hb
  have hn := Pix.num_bd (m := 5) ha hb hs hd
  unfold Pix.num at hn
  have HB := Lib.hid (fun W => blend5_any s d W hs hd)
  obtain ⟨s0, s1⟩ := hs
  obtain ⟨d0, d1⟩ := hd
  obtain ⟨a0, a1⟩ := ha
  obtain ⟨b0, b1⟩ := hb
  have p1 := Pix.mul_bd a0 a1 (show 0 ≤ 255 - b by omega) (show 255 - b ≤ 255 by omega)
  have p2 := Pix.mul_bd b0 b1 (show 0 ≤ 255 - a by omega) (show 255 - a ≤ 255 by omega)
  have p3 := Pix.mul_bd a0 a1 b0 b1
  have q1 := Pix.mul_bd p1.1 p1.2 s0 s1
  have q2 := Pix.mul_bd p2.1 p2.2 d0 d1
  have q3 := Pix.mul_bd p3.1 p3.2 hbl.1 hbl.2
  have HF : Hid (Pix.color 5 a b s d = Pix.rnd (255 * (a * (255 - b) * s + b * (255 - a) * d) + a * b * Pix.blend 5 s d) (255 * Pix.covers a b)) := rfl
  generalize Pix.covers a b = c at *
  generalize Pix.blend 5 s d = t at *
  go_enter Tryd.func39, Tryd.ntmps39
  go_wp2
  go_quiet ((first | (go_at_call 56; exact (HB.out _).mono fun _ _ ⟨he, hm⟩ => ⟨he, _, hm.symm⟩) | (go_at_call 40; exact (round_any _ _ _ (by omega) (by omega) (by omega) (by omega)).mono fun _ _ ⟨he, hm⟩ => ⟨he, _, hm.symm⟩)))
  go_wp2
  go_ret
  exact ⟨by rw [HF.out]; rfl, _, rfl⟩
end Go.Proofs.YteacjlalekbhpaaDoor
namespace Go.Proofs.YteacjlalekbhpaaDoor
open Go.RowKit
set_option linter.unusedSimpArgs false
abbrev pixv (r g b a : Int) : Value := .agg #[.int .u8 r, .int .u8 g, .int .u8 b, .int .u8 a]
structure P4 where
  r : Int
  g : Int
  b : Int
  a : Int
def P4.val (p : P4) : Value := pixv p.r p.g p.b p.a
structure P4.Ok (p : P4) : Prop where
  r : Pix.Byte p.r
  g : Pix.Byte p.g
  b : Pix.Byte p.b
  a : Pix.Byte p.a
def P4.zero : P4 := ⟨0, 0, 0, 0⟩
theorem P4.zero_ok : P4.zero.Ok := ⟨⟨by decide, by decide⟩, ⟨by decide, by decide⟩, ⟨by decide, by decide⟩, ⟨by decide, by decide⟩⟩
end Go.Proofs.YteacjlalekbhpaaDoor
namespace Go.Proofs.YteacjlalekbhpaaDoor
open Go.RowKit
set_option linter.unusedSimpArgs false
/-- what Over's own variables hold, once the two covers are laid aside -/
structure OverW (w wx : World) (r g b r' g' b' : Int) : Prop where
  below : Below w.heap.size w wx
  size : w.heap.size + 3 ≤ wx.heap.size
  c0 : wx.cell? ⟨w.heap.size, 0, none⟩ = some (.int .u8 r)
  c1 : wx.cell? ⟨w.heap.size, 1, none⟩ = some (.int .u8 g)
  c2 : wx.cell? ⟨w.heap.size, 2, none⟩ = some (.int .u8 b)
  d0 : wx.cell? ⟨w.heap.size + 1, 0, none⟩ = some (.int .u8 r')
  d1 : wx.cell? ⟨w.heap.size + 1, 1, none⟩ = some (.int .u8 g')
  d2 : wx.cell? ⟨w.heap.size + 1, 2, none⟩ = some (.int .u8 b')
  r0 : wx.cell? ⟨w.heap.size + 2, 0, none⟩ = some (.int .u8 0)
  r1 : wx.cell? ⟨w.heap.size + 2, 1, none⟩ = some (.int .u8 0)
  r2 : wx.cell? ⟨w.heap.size + 2, 2, none⟩ = some (.int .u8 0)
  r3 : wx.cell? ⟨w.heap.size + 2, 3, none⟩ = some (.int .u8 0)
  z0 : wx.frozen? ⟨w.heap.size + 2, 0, none⟩ = false
  z1 : wx.frozen? ⟨w.heap.size + 2, 1, none⟩ = false
  z2 : wx.frozen? ⟨w.heap.size + 2, 2, none⟩ = false
  z3 : wx.frozen? ⟨w.heap.size + 2, 3, none⟩ = false
theorem OverW.on {w wx wy : World} {r g b r' g' b' : Int} (h : OverW w wx r g b r' g' b') (hb : Below wx.heap.size wx wy) : OverW w wy r g b r' g' b' := by
  have hs := h.size
  exact ⟨h.below.trans (hb.mono (by omega)), by have := hb.size; omega,
    (hb.cell (by simp <;> omega)).trans h.c0, (hb.cell (by simp <;> omega)).trans h.c1, (hb.cell (by simp <;> omega)).trans h.c2,
    (hb.cell (by simp <;> omega)).trans h.d0, (hb.cell (by simp <;> omega)).trans h.d1, (hb.cell (by simp <;> omega)).trans h.d2,
    (hb.cell (by simp <;> omega)).trans h.r0, (hb.cell (by simp <;> omega)).trans h.r1, (hb.cell (by simp <;> omega)).trans h.r2, (hb.cell (by simp <;> omega)).trans h.r3,
    (hb.frozen (by simp <;> omega)).trans h.z0, (hb.frozen (by simp <;> omega)).trans h.z1, (hb.frozen (by simp <;> omega)).trans h.z2, (hb.frozen (by simp <;> omega)).trans h.z3⟩
end Go.Proofs.YteacjlalekbhpaaDoor
namespace Go.Proofs.YteacjlalekbhpaaDoor
open Go.RowKit
set_option linter.unusedSimpArgs false
set_option maxRecDepth 100000 in
set_option maxHeartbeats 1000000 in
theorem over0_any (r g b a r' g' b' a' : Int) (w : World) (hr : Pix.Byte r) (hg : Pix.Byte g) (hb : Pix.Byte b) (ha : Pix.Byte a) (hr' : Pix.Byte r') (hg' : Pix.Byte g') (hb' : Pix.Byte b') (ha' : Pix.Byte a')
    (hc : 1 ≤ Pix.covers a a') :
    Calls Tryd.prog 20 #[.int .i64 0, pixv r g b a, pixv r' g' b' a'] w fun e w' =>
      e = .returned (.tuple #[pixv (Pix.color 0 a a' r r') (Pix.color 0 a a' g g') (Pix.color 0 a a' b b') (Pix.rnd (Pix.covers a a') 255), .nilIface]) ∧ Below w.heap.size w w' := by
  have hcv := Pix.covers_bd ha ha'
  have HC : Hid (Pix.covers a a' = 255 * a + a' * (255 - a)) := rfl
  have e0 : ((Pix.covers a a' : Int) == 0) = false := by rw [beq_eq_false_iff_ne]; omega
  unfold Pix.covers at e0 hc hcv
  have p2 := Pix.mul_bd ha'.1 ha'.2 (show 0 ≤ 255 - a by have := ha.2; omega) (show 255 - a ≤ 255 by have := ha.1; omega)
  have ba := ha
  have ba' := ha'
  unfold Pix.Byte at ba ba'
  obtain ⟨ba0, ba1⟩ := ba
  obtain ⟨bb0, bb1⟩ := ba'
  have hix : ∀ w : World, (Instr.index 61 (.agg #[.func (.func 51) #[] #[], .func (.func 52) #[] #[], .func (.func 53) #[] #[], .func (.func 54) #[] #[], .func (.func 55) #[] #[], .func (.func 56) #[] #[]]) (.int .i64 0)).run Tryd.prog w = .ok (.func (.func 51) #[] #[]) w := fun _ => by kernel_rfl
  go_enter Tryd.func20, Tryd.ntmps20
  go_upto_region 3 with (go_at_call 37; refine (mode_any _ _).mono ?_; rintro e w' ⟨rfl, rfl⟩)
  go_cut [8, 9] (fun s8 s9 wx => ∃ x y : Nat, s8 = .pointer (some ⟨x, 0, none⟩) ∧ s9 = .pointer (some ⟨y, 0, none⟩) ∧ OverW w wx r g b r' g' b' ∧ wx.cell? ⟨x, 0, none⟩ = some (.int .i64 a) ∧ wx.cell? ⟨y, 0, none⟩ = some (.int .i64 a') ∧ x < wx.heap.size ∧ y < wx.heap.size)
  case first =>
    go_region
    all_goals
      go_wp2_with fail
      go_meet
      refine ⟨_, _, rfl, rfl, ⟨?_, ?_, ?_, ?_, ?_, ?_, ?_, ?_, ?_, ?_, ?_, ?_, ?_, ?_, ?_, ?_⟩, ?_, ?_, ?_, ?_⟩
      · repeat (first | exact Below.refl _ _ | apply Below.drew | refine Below.alloc ?_ (by simp <;> omega) _)
      all_goals first | go_simp | (simp; done) | (simp; omega)
  case rest =>
    obtain ⟨x, y, rfl, rfl, hW, hx, hy, hxy⟩ := hcut
    obtain ⟨hlx, hly⟩ := hxy
    go_wp2_with (go_at_call 38; refine (blends_any _).mono ?_; rintro e w1 ⟨rfl, hb1⟩)
    have hB2 : Below wc.heap.size wc (w1.alloc (.cells #[.func (.func 51) #[] #[]] 60)) := by
      have q1 : Below wc.heap.size wc w1 := ((Below.refl _ _).alloc (Nat.le_refl _) _).trans (hb1.mono (by simp))
      exact q1.alloc q1.size _
    have hf2 : (w1.alloc (.cells #[.func (.func 51) #[] #[]] 60)).cell? ⟨w1.heap.size, 0, none⟩ = some (.func (.func 51) #[] #[]) := by go_simp
    have hcc : (w1.alloc (.cells #[.func (.func 51) #[] #[]] 60)).cell? ⟨wc.heap.size, 0, none⟩ = some (.int .i64 (255 * a + a' * (255 - a))) := by
      have hlt : wc.heap.size < w1.heap.size := by have := hb1.size; simp at this; omega
      rw [World.cell?_alloc_past _ _ _ hlt]
      exact (hb1.cell (by simp)).trans (by go_simp)
    generalize w1.alloc (.cells #[.func (.func 51) #[] #[]] 60) = w2 at *
    generalize w1.heap.size = pf at *
    have hx2 : w2.cell? ⟨x, 0, none⟩ = some (.int .i64 a) := (hB2.cell hlx).trans hx
    have hy2 : w2.cell? ⟨y, 0, none⟩ = some (.int .i64 a') := (hB2.cell hly).trans hy
    obtain ⟨o1, o2, o3, o4, o5, o6, o7, o8, o9, o10, o11, o12, o13, o14, o15, o16⟩ := hW.on hB2
    have hpc := hW.size
    generalize wc.heap.size = pc at *
    have hcol := fun (s d : Int) (W : World) (hs : Pix.Byte s) (hd : Pix.Byte d) (hq : ColorCells W ⟨x, 0, none⟩ ⟨y, 0, none⟩ ⟨pf, 0, none⟩ ⟨pc, 0, none⟩ a a' (Pix.covers a a') 51) => color0_any s d a a' _ _ _ _ W hs hd ha ha' (by rw [HC.out]; exact hc) hq
    have HCOL := Lib.hid hcol
    clear hcol hix hx hy hW hB2 hb1
    go_wp2_with fail
    go_region_held3 (fun w' => w'.cell? ⟨w.heap.size, 0, none⟩ = some (.int .u8 r) ∧ w'.cell? ⟨w.heap.size, 1, none⟩ = some (.int .u8 g) ∧ w'.cell? ⟨w.heap.size, 2, none⟩ = some (.int .u8 b) ∧ w'.cell? ⟨w.heap.size + 1, 0, none⟩ = some (.int .u8 r') ∧ w'.cell? ⟨w.heap.size + 1, 1, none⟩ = some (.int .u8 g') ∧ w'.cell? ⟨w.heap.size + 1, 2, none⟩ = some (.int .u8 b') ∧ w'.cell? ⟨pc, 0, none⟩ = some (.int .i64 (255 * a + a' * (255 - a)))) (first | (simp [*]; done) | (refine ⟨?_, ?_, ?_, ?_, ?_, ?_, ?_⟩ <;> ((repeat rw [World.cell?_setCell_far _ _ _ _ (by simp <;> omega)]) <;> simp [*])))
      (first
        | (go_at_call 39; refine (HCOL.out _ _ _ (by assumption) (by assumption) ?_).mono ?_; (exact ⟨by simp [*], by simp [*], by simp [*], by rw [HC.out]; simp [*]⟩); rintro e w' ⟨rfl, nn, rfl⟩)
        | (go_at_call 40; refine (round_any _ _ _ (by omega) (by omega) (by omega) (by omega)).mono ?_; rintro e w' ⟨rfl, rfl⟩))
    clear HCOL
    go_wp2
    rw [HC.out]
    refine bodyPost_ret (v := .tuple #[pixv (Pix.color 0 a a' r r') (Pix.color 0 a a' g g') (Pix.color 0 a a' b b') (Pix.rnd (255 * a + a' * (255 - a)) 255), .nilIface]) (by simp [results, Tryd.results20, go_sem, *]) rfl ⟨rfl, ?_⟩
    repeat (first | exact o1 | refine Below.setCell ?_ (by simp <;> omega) _ | apply below_drewN)
end Go.Proofs.YteacjlalekbhpaaDoor
namespace Go.Proofs.YteacjlalekbhpaaDoor
open Go.RowKit
set_option linter.unusedSimpArgs false
set_option maxRecDepth 100000 in
set_option maxHeartbeats 1000000 in
theorem over1_any (r g b a r' g' b' a' : Int) (w : World) (hr : Pix.Byte r) (hg : Pix.Byte g) (hb : Pix.Byte b) (ha : Pix.Byte a) (hr' : Pix.Byte r') (hg' : Pix.Byte g') (hb' : Pix.Byte b') (ha' : Pix.Byte a')
    (hc : 1 ≤ Pix.covers a a') :
    Calls Tryd.prog 20 #[.int .i64 1, pixv r g b a, pixv r' g' b' a'] w fun e w' =>
      e = .returned (.tuple #[pixv (Pix.color 1 a a' r r') (Pix.color 1 a a' g g') (Pix.color 1 a a' b b') (Pix.rnd (Pix.covers a a') 255), .nilIface]) ∧ Below w.heap.size w w' := by
  have hcv := Pix.covers_bd ha ha'
  have HC : Hid (Pix.covers a a' = 255 * a + a' * (255 - a)) := rfl
  have e0 : ((Pix.covers a a' : Int) == 0) = false := by rw [beq_eq_false_iff_ne]; omega
  unfold Pix.covers at e0 hc hcv
  have p2 := Pix.mul_bd ha'.1 ha'.2 (show 0 ≤ 255 - a by have := ha.2; omega) (show 255 - a ≤ 255 by have := ha.1; omega)
  have ba := ha
  have ba' := ha'
  unfold Pix.Byte at ba ba'
  obtain ⟨ba0, ba1⟩ := ba
  obtain ⟨bb0, bb1⟩ := ba'
  have hix : ∀ w : World, (Instr.index 61 (.agg #[.func (.func 51) #[] #[], .func (.func 52) #[] #[], .func (.func 53) #[] #[], .func (.func 54) #[] #[], .func (.func 55) #[] #[], .func (.func 56) #[] #[]]) (.int .i64 1)).run Tryd.prog w = .ok (.func (.func 52) #[] #[]) w := fun _ => by kernel_rfl
  go_enter Tryd.func20, Tryd.ntmps20
  go_upto_region 3 with (go_at_call 37; refine (mode_any _ _).mono ?_; rintro e w' ⟨rfl, rfl⟩)
  go_cut [8, 9] (fun s8 s9 wx => ∃ x y : Nat, s8 = .pointer (some ⟨x, 0, none⟩) ∧ s9 = .pointer (some ⟨y, 0, none⟩) ∧ OverW w wx r g b r' g' b' ∧ wx.cell? ⟨x, 0, none⟩ = some (.int .i64 a) ∧ wx.cell? ⟨y, 0, none⟩ = some (.int .i64 a') ∧ x < wx.heap.size ∧ y < wx.heap.size)
  case first =>
    go_region
    all_goals
      go_wp2_with fail
      go_meet
      refine ⟨_, _, rfl, rfl, ⟨?_, ?_, ?_, ?_, ?_, ?_, ?_, ?_, ?_, ?_, ?_, ?_, ?_, ?_, ?_, ?_⟩, ?_, ?_, ?_, ?_⟩
      · repeat (first | exact Below.refl _ _ | apply Below.drew | refine Below.alloc ?_ (by simp <;> omega) _)
      all_goals first | go_simp | (simp; done) | (simp; omega)
  case rest =>
    obtain ⟨x, y, rfl, rfl, hW, hx, hy, hxy⟩ := hcut
    obtain ⟨hlx, hly⟩ := hxy
    go_wp2_with (go_at_call 38; refine (blends_any _).mono ?_; rintro e w1 ⟨rfl, hb1⟩)
    have hB2 : Below wc.heap.size wc (w1.alloc (.cells #[.func (.func 52) #[] #[]] 60)) := by
      have q1 : Below wc.heap.size wc w1 := ((Below.refl _ _).alloc (Nat.le_refl _) _).trans (hb1.mono (by simp))
      exact q1.alloc q1.size _
    have hf2 : (w1.alloc (.cells #[.func (.func 52) #[] #[]] 60)).cell? ⟨w1.heap.size, 0, none⟩ = some (.func (.func 52) #[] #[]) := by go_simp
    have hcc : (w1.alloc (.cells #[.func (.func 52) #[] #[]] 60)).cell? ⟨wc.heap.size, 0, none⟩ = some (.int .i64 (255 * a + a' * (255 - a))) := by
      have hlt : wc.heap.size < w1.heap.size := by have := hb1.size; simp at this; omega
      rw [World.cell?_alloc_past _ _ _ hlt]
      exact (hb1.cell (by simp)).trans (by go_simp)
    generalize w1.alloc (.cells #[.func (.func 52) #[] #[]] 60) = w2 at *
    generalize w1.heap.size = pf at *
    have hx2 : w2.cell? ⟨x, 0, none⟩ = some (.int .i64 a) := (hB2.cell hlx).trans hx
    have hy2 : w2.cell? ⟨y, 0, none⟩ = some (.int .i64 a') := (hB2.cell hly).trans hy
    obtain ⟨o1, o2, o3, o4, o5, o6, o7, o8, o9, o10, o11, o12, o13, o14, o15, o16⟩ := hW.on hB2
    have hpc := hW.size
    generalize wc.heap.size = pc at *
    have hcol := fun (s d : Int) (W : World) (hs : Pix.Byte s) (hd : Pix.Byte d) (hq : ColorCells W ⟨x, 0, none⟩ ⟨y, 0, none⟩ ⟨pf, 0, none⟩ ⟨pc, 0, none⟩ a a' (Pix.covers a a') 52) => color1_any s d a a' _ _ _ _ W hs hd ha ha' (by rw [HC.out]; exact hc) hq
    have HCOL := Lib.hid hcol
    clear hcol hix hx hy hW hB2 hb1
    go_wp2_with fail
    go_region_held3 (fun w' => w'.cell? ⟨w.heap.size, 0, none⟩ = some (.int .u8 r) ∧ w'.cell? ⟨w.heap.size, 1, none⟩ = some (.int .u8 g) ∧ w'.cell? ⟨w.heap.size, 2, none⟩ = some (.int .u8 b) ∧ w'.cell? ⟨w.heap.size + 1, 0, none⟩ = some (.int .u8 r') ∧ w'.cell? ⟨w.heap.size + 1, 1, none⟩ = some (.int .u8 g') ∧ w'.cell? ⟨w.heap.size + 1, 2, none⟩ = some (.int .u8 b') ∧ w'.cell? ⟨pc, 0, none⟩ = some (.int .i64 (255 * a + a' * (255 - a)))) (first | (simp [*]; done) | (refine ⟨?_, ?_, ?_, ?_, ?_, ?_, ?_⟩ <;> ((repeat rw [World.cell?_setCell_far _ _ _ _ (by simp <;> omega)]) <;> simp [*])))
      (first
        | (go_at_call 39; refine (HCOL.out _ _ _ (by assumption) (by assumption) ?_).mono ?_; (exact ⟨by simp [*], by simp [*], by simp [*], by rw [HC.out]; simp [*]⟩); rintro e w' ⟨rfl, nn, rfl⟩)
        | (go_at_call 40; refine (round_any _ _ _ (by omega) (by omega) (by omega) (by omega)).mono ?_; rintro e w' ⟨rfl, rfl⟩))
    clear HCOL
    go_wp2
    rw [HC.out]
    refine bodyPost_ret (v := .tuple #[pixv (Pix.color 1 a a' r r') (Pix.color 1 a a' g g') (Pix.color 1 a a' b b') (Pix.rnd (255 * a + a' * (255 - a)) 255), .nilIface]) (by simp [results, Tryd.results20, go_sem, *]) rfl ⟨rfl, ?_⟩
    repeat (first | exact o1 | refine Below.setCell ?_ (by simp <;> omega) _ | apply below_drewN)
end Go.Proofs.YteacjlalekbhpaaDoor
namespace Go.Proofs.YteacjlalekbhpaaDoor
open Go.RowKit
set_option linter.unusedSimpArgs false
set_option maxRecDepth 100000 in
set_option maxHeartbeats 1000000 in
theorem over2_any (r g b a r' g' b' a' : Int) (w : World) (hr : Pix.Byte r) (hg : Pix.Byte g) (hb : Pix.Byte b) (ha : Pix.Byte a) (hr' : Pix.Byte r') (hg' : Pix.Byte g') (hb' : Pix.Byte b') (ha' : Pix.Byte a')
    (hc : 1 ≤ Pix.covers a a') :
    Calls Tryd.prog 20 #[.int .i64 2, pixv r g b a, pixv r' g' b' a'] w fun e w' =>
      e = .returned (.tuple #[pixv (Pix.color 2 a a' r r') (Pix.color 2 a a' g g') (Pix.color 2 a a' b b') (Pix.rnd (Pix.covers a a') 255), .nilIface]) ∧ Below w.heap.size w w' := by
  have hcv := Pix.covers_bd ha ha'
  have HC : Hid (Pix.covers a a' = 255 * a + a' * (255 - a)) := rfl
  have e0 : ((Pix.covers a a' : Int) == 0) = false := by rw [beq_eq_false_iff_ne]; omega
  unfold Pix.covers at e0 hc hcv
  have p2 := Pix.mul_bd ha'.1 ha'.2 (show 0 ≤ 255 - a by have := ha.2; omega) (show 255 - a ≤ 255 by have := ha.1; omega)
  have ba := ha
  have ba' := ha'
  unfold Pix.Byte at ba ba'
  obtain ⟨ba0, ba1⟩ := ba
  obtain ⟨bb0, bb1⟩ := ba'
  have hix : ∀ w : World, (Instr.index 61 (.agg #[.func (.func 51) #[] #[], .func (.func 52) #[] #[], .func (.func 53) #[] #[], .func (.func 54) #[] #[], .func (.func 55) #[] #[], .func (.func 56) #[] #[]]) (.int .i64 2)).run Tryd.prog w = .ok (.func (.func 53) #[] #[]) w := fun _ => by kernel_rfl
  go_enter Tryd.func20, Tryd.ntmps20
  go_upto_region 3 with (go_at_call 37; refine (mode_any _ _).mono ?_; rintro e w' ⟨rfl, rfl⟩)
  go_cut [8, 9] (fun s8 s9 wx => ∃ x y : Nat, s8 = .pointer (some ⟨x, 0, none⟩) ∧ s9 = .pointer (some ⟨y, 0, none⟩) ∧ OverW w wx r g b r' g' b' ∧ wx.cell? ⟨x, 0, none⟩ = some (.int .i64 a) ∧ wx.cell? ⟨y, 0, none⟩ = some (.int .i64 a') ∧ x < wx.heap.size ∧ y < wx.heap.size)
  case first =>
    go_region
    all_goals
      go_wp2_with fail
      go_meet
      refine ⟨_, _, rfl, rfl, ⟨?_, ?_, ?_, ?_, ?_, ?_, ?_, ?_, ?_, ?_, ?_, ?_, ?_, ?_, ?_, ?_⟩, ?_, ?_, ?_, ?_⟩
      · repeat (first | exact Below.refl _ _ | apply Below.drew | refine Below.alloc ?_ (by simp <;> omega) _)
      all_goals first | go_simp | (simp; done) | (simp; omega)
  case rest =>
    obtain ⟨x, y, rfl, rfl, hW, hx, hy, hxy⟩ := hcut
    obtain ⟨hlx, hly⟩ := hxy
    go_wp2_with (go_at_call 38; refine (blends_any _).mono ?_; rintro e w1 ⟨rfl, hb1⟩)
    have hB2 : Below wc.heap.size wc (w1.alloc (.cells #[.func (.func 53) #[] #[]] 60)) := by
      have q1 : Below wc.heap.size wc w1 := ((Below.refl _ _).alloc (Nat.le_refl _) _).trans (hb1.mono (by simp))
      exact q1.alloc q1.size _
    have hf2 : (w1.alloc (.cells #[.func (.func 53) #[] #[]] 60)).cell? ⟨w1.heap.size, 0, none⟩ = some (.func (.func 53) #[] #[]) := by go_simp
    have hcc : (w1.alloc (.cells #[.func (.func 53) #[] #[]] 60)).cell? ⟨wc.heap.size, 0, none⟩ = some (.int .i64 (255 * a + a' * (255 - a))) := by
      have hlt : wc.heap.size < w1.heap.size := by have := hb1.size; simp at this; omega
      rw [World.cell?_alloc_past _ _ _ hlt]
      exact (hb1.cell (by simp)).trans (by go_simp)
    generalize w1.alloc (.cells #[.func (.func 53) #[] #[]] 60) = w2 at *
    generalize w1.heap.size = pf at *
    have hx2 : w2.cell? ⟨x, 0, none⟩ = some (.int .i64 a) := (hB2.cell hlx).trans hx
    have hy2 : w2.cell? ⟨y, 0, none⟩ = some (.int .i64 a') := (hB2.cell hly).trans hy
    obtain ⟨o1, o2, o3, o4, o5, o6, o7, o8, o9, o10, o11, o12, o13, o14, o15, o16⟩ := hW.on hB2
    have hpc := hW.size
    generalize wc.heap.size = pc at *
    have hcol := fun (s d : Int) (W : World) (hs : Pix.Byte s) (hd : Pix.Byte d) (hq : ColorCells W ⟨x, 0, none⟩ ⟨y, 0, none⟩ ⟨pf, 0, none⟩ ⟨pc, 0, none⟩ a a' (Pix.covers a a') 53) => color2_any s d a a' _ _ _ _ W hs hd ha ha' (by rw [HC.out]; exact hc) hq
    have HCOL := Lib.hid hcol
    clear hcol hix hx hy hW hB2 hb1
    go_wp2_with fail
    go_region_held3 (fun w' => w'.cell? ⟨w.heap.size, 0, none⟩ = some (.int .u8 r) ∧ w'.cell? ⟨w.heap.size, 1, none⟩ = some (.int .u8 g) ∧ w'.cell? ⟨w.heap.size, 2, none⟩ = some (.int .u8 b) ∧ w'.cell? ⟨w.heap.size + 1, 0, none⟩ = some (.int .u8 r') ∧ w'.cell? ⟨w.heap.size + 1, 1, none⟩ = some (.int .u8 g') ∧ w'.cell? ⟨w.heap.size + 1, 2, none⟩ = some (.int .u8 b') ∧ w'.cell? ⟨pc, 0, none⟩ = some (.int .i64 (255 * a + a' * (255 - a)))) (first | (simp [*]; done) | (refine ⟨?_, ?_, ?_, ?_, ?_, ?_, ?_⟩ <;> ((repeat rw [World.cell?_setCell_far _ _ _ _ (by simp <;> omega)]) <;> simp [*])))
      (first
        | (go_at_call 39; refine (HCOL.out _ _ _ (by assumption) (by assumption) ?_).mono ?_; (exact ⟨by simp [*], by simp [*], by simp [*], by rw [HC.out]; simp [*]⟩); rintro e w' ⟨rfl, nn, rfl⟩)
        | (go_at_call 40; refine (round_any _ _ _ (by omega) (by omega) (by omega) (by omega)).mono ?_; rintro e w' ⟨rfl, rfl⟩))
    clear HCOL
    go_wp2
    rw [HC.out]
    refine bodyPost_ret (v := .tuple #[pixv (Pix.color 2 a a' r r') (Pix.color 2 a a' g g') (Pix.color 2 a a' b b') (Pix.rnd (255 * a + a' * (255 - a)) 255), .nilIface]) (by simp [results, Tryd.results20, go_sem, *]) rfl ⟨rfl, ?_⟩
    repeat (first | exact o1 | refine Below.setCell ?_ (by simp <;> omega) _ | apply below_drewN)
end Go.Proofs.YteacjlalekbhpaaDoor
namespace Go.Proofs.YteacjlalekbhpaaDoor
open Go.RowKit
set_option linter.unusedSimpArgs false
set_option maxRecDepth 100000 in
set_option maxHeartbeats 1000000 in
theorem over3_any (r g b a r' g' b' a' : Int) (w : World) (hr : Pix.Byte r) (hg : Pix.Byte g) (hb : Pix.Byte b) (ha : Pix.Byte a) (hr' : Pix.Byte r') (hg' : Pix.Byte g') (hb' : Pix.Byte b') (ha' : Pix.Byte a')
    (hc : 1 ≤ Pix.covers a a') :
    Calls Tryd.prog 20 #[.int .i64 3, pixv r g b a, pixv r' g' b' a'] w fun e w' =>
      e = .returned (.tuple #[pixv (Pix.color 3 a a' r r') (Pix.color 3 a a' g g') (Pix.color 3 a a' b b') (Pix.rnd (Pix.covers a a') 255), .nilIface]) ∧ Below w.heap.size w w' := by
  have hcv := Pix.covers_bd ha ha'
  have HC : Hid (Pix.covers a a' = 255 * a + a' * (255 - a)) := rfl
  have e0 : ((Pix.covers a a' : Int) == 0) = false := by rw [beq_eq_false_iff_ne]; omega
  unfold Pix.covers at e0 hc hcv
  have p2 := Pix.mul_bd ha'.1 ha'.2 (show 0 ≤ 255 - a by have := ha.2; omega) (show 255 - a ≤ 255 by have := ha.1; omega)
  have ba := ha
  have ba' := ha'
  unfold Pix.Byte at ba ba'
  obtain ⟨ba0, ba1⟩ := ba
  obtain ⟨bb0, bb1⟩ := ba'
  have hix : ∀ w : World, (Instr.index 61 (.agg #[.func (.func 51) #[] #[], .func (.func 52) #[] #[], .func (.func 53) #[] #[], .func (.func 54) #[] #[], .func (.func 55) #[] #[], .func (.func 56) #[] #[]]) (.int .i64 3)).run Tryd.prog w = .ok (.func (.func 54) #[] #[]) w := fun _ => by kernel_rfl
  go_enter Tryd.func20, Tryd.ntmps20
  go_upto_region 3 with (go_at_call 37; refine (mode_any _ _).mono ?_; rintro e w' ⟨rfl, rfl⟩)
  go_cut [8, 9] (fun s8 s9 wx => ∃ x y : Nat, s8 = .pointer (some ⟨x, 0, none⟩) ∧ s9 = .pointer (some ⟨y, 0, none⟩) ∧ OverW w wx r g b r' g' b' ∧ wx.cell? ⟨x, 0, none⟩ = some (.int .i64 a) ∧ wx.cell? ⟨y, 0, none⟩ = some (.int .i64 a') ∧ x < wx.heap.size ∧ y < wx.heap.size)
  case first =>
    go_region
    all_goals
      go_wp2_with fail
      go_meet
      refine ⟨_, _, rfl, rfl, ⟨?_, ?_, ?_, ?_, ?_, ?_, ?_, ?_, ?_, ?_, ?_, ?_, ?_, ?_, ?_, ?_⟩, ?_, ?_, ?_, ?_⟩
      · repeat (first | exact Below.refl _ _ | apply Below.drew | refine Below.alloc ?_ (by simp <;> omega) _)
      all_goals first | go_simp | (simp; done) | (simp; omega)
  case rest =>
    obtain ⟨x, y, rfl, rfl, hW, hx, hy, hxy⟩ := hcut
    obtain ⟨hlx, hly⟩ := hxy
    go_wp2_with (go_at_call 38; refine (blends_any _).mono ?_; rintro e w1 ⟨rfl, hb1⟩)
    have hB2 : Below wc.heap.size wc (w1.alloc (.cells #[.func (.func 54) #[] #[]] 60)) := by
      have q1 : Below wc.heap.size wc w1 := ((Below.refl _ _).alloc (Nat.le_refl _) _).trans (hb1.mono (by simp))
      exact q1.alloc q1.size _
    have hf2 : (w1.alloc (.cells #[.func (.func 54) #[] #[]] 60)).cell? ⟨w1.heap.size, 0, none⟩ = some (.func (.func 54) #[] #[]) := by go_simp
    have hcc : (w1.alloc (.cells #[.func (.func 54) #[] #[]] 60)).cell? ⟨wc.heap.size, 0, none⟩ = some (.int .i64 (255 * a + a' * (255 - a))) := by
      have hlt : wc.heap.size < w1.heap.size := by have := hb1.size; simp at this; omega
      rw [World.cell?_alloc_past _ _ _ hlt]
      exact (hb1.cell (by simp)).trans (by go_simp)
    generalize w1.alloc (.cells #[.func (.func 54) #[] #[]] 60) = w2 at *
    generalize w1.heap.size = pf at *
    have hx2 : w2.cell? ⟨x, 0, none⟩ = some (.int .i64 a) := (hB2.cell hlx).trans hx
    have hy2 : w2.cell? ⟨y, 0, none⟩ = some (.int .i64 a') := (hB2.cell hly).trans hy
    obtain ⟨o1, o2, o3, o4, o5, o6, o7, o8, o9, o10, o11, o12, o13, o14, o15, o16⟩ := hW.on hB2
    have hpc := hW.size
    generalize wc.heap.size = pc at *
    have hcol := fun (s d : Int) (W : World) (hs : Pix.Byte s) (hd : Pix.Byte d) (hq : ColorCells W ⟨x, 0, none⟩ ⟨y, 0, none⟩ ⟨pf, 0, none⟩ ⟨pc, 0, none⟩ a a' (Pix.covers a a') 54) => color3_any s d a a' _ _ _ _ W hs hd ha ha' (by rw [HC.out]; exact hc) hq
    have HCOL := Lib.hid hcol
    clear hcol hix hx hy hW hB2 hb1
    go_wp2_with fail
    go_region_held3 (fun w' => w'.cell? ⟨w.heap.size, 0, none⟩ = some (.int .u8 r) ∧ w'.cell? ⟨w.heap.size, 1, none⟩ = some (.int .u8 g) ∧ w'.cell? ⟨w.heap.size, 2, none⟩ = some (.int .u8 b) ∧ w'.cell? ⟨w.heap.size + 1, 0, none⟩ = some (.int .u8 r') ∧ w'.cell? ⟨w.heap.size + 1, 1, none⟩ = some (.int .u8 g') ∧ w'.cell? ⟨w.heap.size + 1, 2, none⟩ = some (.int .u8 b') ∧ w'.cell? ⟨pc, 0, none⟩ = some (.int .i64 (255 * a + a' * (255 - a)))) (first | (simp [*]; done) | (refine ⟨?_, ?_, ?_, ?_, ?_, ?_, ?_⟩ <;> ((repeat rw [World.cell?_setCell_far _ _ _ _ (by simp <;> omega)]) <;> simp [*])))
      (first
        | (go_at_call 39; refine (HCOL.out _ _ _ (by assumption) (by assumption) ?_).mono ?_; (exact ⟨by simp [*], by simp [*], by simp [*], by rw [HC.out]; simp [*]⟩); rintro e w' ⟨rfl, nn, rfl⟩)
        | (go_at_call 40; refine (round_any _ _ _ (by omega) (by omega) (by omega) (by omega)).mono ?_; rintro e w' ⟨rfl, rfl⟩))
    clear HCOL
    go_wp2
    rw [HC.out]
    refine bodyPost_ret (v := .tuple #[pixv (Pix.color 3 a a' r r') (Pix.color 3 a a' g g') (Pix.color 3 a a' b b') (Pix.rnd (255 * a + a' * (255 - a)) 255), .nilIface]) (by simp [results, Tryd.results20, go_sem, *]) rfl ⟨rfl, ?_⟩
    repeat (first | exact o1 | refine Below.setCell ?_ (by simp <;> omega) _ | apply below_drewN)
end Go.Proofs.YteacjlalekbhpaaDoor
namespace Go.Proofs.YteacjlalekbhpaaDoor
open Go.RowKit
set_option linter.unusedSimpArgs false
set_option maxRecDepth 100000 in
set_option maxHeartbeats 1000000 in
theorem over4_any (r g b a r' g' b' a' : Int) (w : World) (hr : Pix.Byte r) (hg : Pix.Byte g) (hb : Pix.Byte b) (ha : Pix.Byte a) (hr' : Pix.Byte r') (hg' : Pix.Byte g') (hb' : Pix.Byte b') (ha' : Pix.Byte a')
    (hc : 1 ≤ Pix.covers a a') :
    Calls Tryd.prog 20 #[.int .i64 4, pixv r g b a, pixv r' g' b' a'] w fun e w' =>
      e = .returned (.tuple #[pixv (Pix.color 4 a a' r r') (Pix.color 4 a a' g g') (Pix.color 4 a a' b b') (Pix.rnd (Pix.covers a a') 255), .nilIface]) ∧ Below w.heap.size w w' := by
  have hcv := Pix.covers_bd ha ha'
  have HC : Hid (Pix.covers a a' = 255 * a + a' * (255 - a)) := rfl
  have e0 : ((Pix.covers a a' : Int) == 0) = false := by rw [beq_eq_false_iff_ne]; omega
  unfold Pix.covers at e0 hc hcv
  have p2 := Pix.mul_bd ha'.1 ha'.2 (show 0 ≤ 255 - a by have := ha.2; omega) (show 255 - a ≤ 255 by have := ha.1; omega)
  have ba := ha
  have ba' := ha'
  unfold Pix.Byte at ba ba'
  obtain ⟨ba0, ba1⟩ := ba
  obtain ⟨bb0, bb1⟩ := ba'
  have hix : ∀ w : World, (Instr.index 61 (.agg #[.func (.func 51) #[] #[], .func (.func 52) #[] #[], .func (.func 53) #[] #[], .func (.func 54) #[] #[], .func (.func 55) #[] #[], .func (.func 56) #[] #[]]) (.int .i64 4)).run Tryd.prog w = .ok (.func (.func 55) #[] #[]) w := fun _ => by kernel_rfl
  go_enter Tryd.func20, Tryd.ntmps20
  go_upto_region 3 with (go_at_call 37; refine (mode_any _ _).mono ?_; rintro e w' ⟨rfl, rfl⟩)
  go_cut [8, 9] (fun s8 s9 wx => ∃ x y : Nat, s8 = .pointer (some ⟨x, 0, none⟩) ∧ s9 = .pointer (some ⟨y, 0, none⟩) ∧ OverW w wx r g b r' g' b' ∧ wx.cell? ⟨x, 0, none⟩ = some (.int .i64 a) ∧ wx.cell? ⟨y, 0, none⟩ = some (.int .i64 a') ∧ x < wx.heap.size ∧ y < wx.heap.size)
  case first =>
    go_region
    all_goals
      go_wp2_with fail
      go_meet
      refine ⟨_, _, rfl, rfl, ⟨?_, ?_, ?_, ?_, ?_, ?_, ?_, ?_, ?_, ?_, ?_, ?_, ?_, ?_, ?_, ?_⟩, ?_, ?_, ?_, ?_⟩
      · repeat (first | exact Below.refl _ _ | apply Below.drew | refine Below.alloc ?_ (by simp <;> omega) _)
      all_goals first | go_simp | (simp; done) | (simp; omega)
  case rest =>
    obtain ⟨x, y, rfl, rfl, hW, hx, hy, hxy⟩ := hcut
    obtain ⟨hlx, hly⟩ := hxy
    go_wp2_with (go_at_call 38; refine (blends_any _).mono ?_; rintro e w1 ⟨rfl, hb1⟩)
    have hB2 : Below wc.heap.size wc (w1.alloc (.cells #[.func (.func 55) #[] #[]] 60)) := by
      have q1 : Below wc.heap.size wc w1 := ((Below.refl _ _).alloc (Nat.le_refl _) _).trans (hb1.mono (by simp))
      exact q1.alloc q1.size _
    have hf2 : (w1.alloc (.cells #[.func (.func 55) #[] #[]] 60)).cell? ⟨w1.heap.size, 0, none⟩ = some (.func (.func 55) #[] #[]) := by go_simp
    have hcc : (w1.alloc (.cells #[.func (.func 55) #[] #[]] 60)).cell? ⟨wc.heap.size, 0, none⟩ = some (.int .i64 (255 * a + a' * (255 - a))) := by
      have hlt : wc.heap.size < w1.heap.size := by have := hb1.size; simp at this; omega
      rw [World.cell?_alloc_past _ _ _ hlt]
      exact (hb1.cell (by simp)).trans (by go_simp)
    generalize w1.alloc (.cells #[.func (.func 55) #[] #[]] 60) = w2 at *
    generalize w1.heap.size = pf at *
    have hx2 : w2.cell? ⟨x, 0, none⟩ = some (.int .i64 a) := (hB2.cell hlx).trans hx
    have hy2 : w2.cell? ⟨y, 0, none⟩ = some (.int .i64 a') := (hB2.cell hly).trans hy
    obtain ⟨o1, o2, o3, o4, o5, o6, o7, o8, o9, o10, o11, o12, o13, o14, o15, o16⟩ := hW.on hB2
    have hpc := hW.size
    generalize wc.heap.size = pc at *
    have hcol := fun (s d : Int) (W : World) (hs : Pix.Byte s) (hd : Pix.Byte d) (hq : ColorCells W ⟨x, 0, none⟩ ⟨y, 0, none⟩ ⟨pf, 0, none⟩ ⟨pc, 0, none⟩ a a' (Pix.covers a a') 55) => color4_any s d a a' _ _ _ _ W hs hd ha ha' (by rw [HC.out]; exact hc) hq
    have HCOL := Lib.hid hcol
    clear hcol hix hx hy hW hB2 hb1
    go_wp2_with fail
    go_region_held3 (fun w' => w'.cell? ⟨w.heap.size, 0, none⟩ = some (.int .u8 r) ∧ w'.cell? ⟨w.heap.size, 1, none⟩ = some (.int .u8 g) ∧ w'.cell? ⟨w.heap.size, 2, none⟩ = some (.int .u8 b) ∧ w'.cell? ⟨w.heap.size + 1, 0, none⟩ = some (.int .u8 r') ∧ w'.cell? ⟨w.heap.size + 1, 1, none⟩ = some (.int .u8 g') ∧ w'.cell? ⟨w.heap.size + 1, 2, none⟩ = some (.int .u8 b') ∧ w'.cell? ⟨pc, 0, none⟩ = some (.int .i64 (255 * a + a' * (255 - a)))) (first | (simp [*]; done) | (refine ⟨?_, ?_, ?_, ?_, ?_, ?_, ?_⟩ <;> ((repeat rw [World.cell?_setCell_far _ _ _ _ (by simp <;> omega)]) <;> simp [*])))
      (first
        | (go_at_call 39; refine (HCOL.out _ _ _ (by assumption) (by assumption) ?_).mono ?_; (exact ⟨by simp [*], by simp [*], by simp [*], by rw [HC.out]; simp [*]⟩); rintro e w' ⟨rfl, nn, rfl⟩)
        | (go_at_call 40; refine (round_any _ _ _ (by omega) (by omega) (by omega) (by omega)).mono ?_; rintro e w' ⟨rfl, rfl⟩))
    clear HCOL
    go_wp2
    rw [HC.out]
    refine bodyPost_ret (v := .tuple #[pixv (Pix.color 4 a a' r r') (Pix.color 4 a a' g g') (Pix.color 4 a a' b b') (Pix.rnd (255 * a + a' * (255 - a)) 255), .nilIface]) (by simp [results, Tryd.results20, go_sem, *]) rfl ⟨rfl, ?_⟩
    repeat (first | exact o1 | refine Below.setCell ?_ (by simp <;> omega) _ | apply below_drewN)
end Go.Proofs.YteacjlalekbhpaaDoor
namespace Go.Proofs.YteacjlalekbhpaaDoor
open Go.RowKit
set_option linter.unusedSimpArgs false
set_option maxRecDepth 100000 in
set_option maxHeartbeats 1000000 in
theorem over5_any (r g b a r' g' b' a' : Int) (w : World) (hr : Pix.Byte r) (hg : Pix.Byte g) (hb : Pix.Byte b) (ha : Pix.Byte a) (hr' : Pix.Byte r') (hg' : Pix.Byte g') (hb' : Pix.Byte b') (ha' : Pix.Byte a')
    (hc : 1 ≤ Pix.covers a a') :
    Calls Tryd.prog 20 #[.int .i64 5, pixv r g b a, pixv r' g' b' a'] w fun e w' =>
      e = .returned (.tuple #[pixv (Pix.color 5 a a' r r') (Pix.color 5 a a' g g') (Pix.color 5 a a' b b') (Pix.rnd (Pix.covers a a') 255), .nilIface]) ∧ Below w.heap.size w w' := by
  have hcv := Pix.covers_bd ha ha'
  have HC : Hid (Pix.covers a a' = 255 * a + a' * (255 - a)) := rfl
  have e0 : ((Pix.covers a a' : Int) == 0) = false := by rw [beq_eq_false_iff_ne]; omega
  unfold Pix.covers at e0 hc hcv
  have p2 := Pix.mul_bd ha'.1 ha'.2 (show 0 ≤ 255 - a by have := ha.2; omega) (show 255 - a ≤ 255 by have := ha.1; omega)
  have ba := ha
  have ba' := ha'
  unfold Pix.Byte at ba ba'
  obtain ⟨ba0, ba1⟩ := ba
  obtain ⟨bb0, bb1⟩ := ba'
  have hix : ∀ w : World, (Instr.index 61 (.agg #[.func (.func 51) #[] #[], .func (.func 52) #[] #[], .func (.func 53) #[] #[], .func (.func 54) #[] #[], .func (.func 55) #[] #[], .func (.func 56) #[] #[]]) (.int .i64 5)).run Tryd.prog w = .ok (.func (.func 56) #[] #[]) w := fun _ => by kernel_rfl
  go_enter Tryd.func20, Tryd.ntmps20
  go_upto_region 3 with (go_at_call 37; refine (mode_any _ _).mono ?_; rintro e w' ⟨rfl, rfl⟩)
  go_cut [8, 9] (fun s8 s9 wx => ∃ x y : Nat, s8 = .pointer (some ⟨x, 0, none⟩) ∧ s9 = .pointer (some ⟨y, 0, none⟩) ∧ OverW w wx r g b r' g' b' ∧ wx.cell? ⟨x, 0, none⟩ = some (.int .i64 a) ∧ wx.cell? ⟨y, 0, none⟩ = some (.int .i64 a') ∧ x < wx.heap.size ∧ y < wx.heap.size)
  case first =>
    go_region
    all_goals
      go_wp2_with fail
      go_meet
      refine ⟨_, _, rfl, rfl, ⟨?_, ?_, ?_, ?_, ?_, ?_, ?_, ?_, ?_, ?_, ?_, ?_, ?_, ?_, ?_, ?_⟩, ?_, ?_, ?_, ?_⟩
      · repeat (first | exact Below.refl _ _ | apply Below.drew | refine Below.alloc ?_ (by simp <;> omega) _)
      all_goals first | go_simp | (simp; done) | (simp; omega)
  case rest =>
    obtain ⟨x, y, rfl, rfl, hW, hx, hy, hxy⟩ := hcut
    obtain ⟨hlx, hly⟩ := hxy
    go_wp2_with (go_at_call 38; refine (blends_any _).mono ?_; rintro e w1 ⟨rfl, hb1⟩)
    have hB2 : Below wc.heap.size wc (w1.alloc (.cells #[.func (.func 56) #[] #[]] 60)) := by
      have q1 : Below wc.heap.size wc w1 := ((Below.refl _ _).alloc (Nat.le_refl _) _).trans (hb1.mono (by simp))
      exact q1.alloc q1.size _
    have hf2 : (w1.alloc (.cells #[.func (.func 56) #[] #[]] 60)).cell? ⟨w1.heap.size, 0, none⟩ = some (.func (.func 56) #[] #[]) := by go_simp
    have hcc : (w1.alloc (.cells #[.func (.func 56) #[] #[]] 60)).cell? ⟨wc.heap.size, 0, none⟩ = some (.int .i64 (255 * a + a' * (255 - a))) := by
      have hlt : wc.heap.size < w1.heap.size := by have := hb1.size; simp at this; omega
      rw [World.cell?_alloc_past _ _ _ hlt]
      exact (hb1.cell (by simp)).trans (by go_simp)
    generalize w1.alloc (.cells #[.func (.func 56) #[] #[]] 60) = w2 at *
    generalize w1.heap.size = pf at *
    have hx2 : w2.cell? ⟨x, 0, none⟩ = some (.int .i64 a) := (hB2.cell hlx).trans hx
    have hy2 : w2.cell? ⟨y, 0, none⟩ = some (.int .i64 a') := (hB2.cell hly).trans hy
    obtain ⟨o1, o2, o3, o4, o5, o6, o7, o8, o9, o10, o11, o12, o13, o14, o15, o16⟩ := hW.on hB2
    have hpc := hW.size
    generalize wc.heap.size = pc at *
    have hcol := fun (s d : Int) (W : World) (hs : Pix.Byte s) (hd : Pix.Byte d) (hq : ColorCells W ⟨x, 0, none⟩ ⟨y, 0, none⟩ ⟨pf, 0, none⟩ ⟨pc, 0, none⟩ a a' (Pix.covers a a') 56) => color5_any s d a a' _ _ _ _ W hs hd ha ha' (by rw [HC.out]; exact hc) hq
    have HCOL := Lib.hid hcol
    clear hcol hix hx hy hW hB2 hb1
    go_wp2_with fail
    go_region_held3 (fun w' => w'.cell? ⟨w.heap.size, 0, none⟩ = some (.int .u8 r) ∧ w'.cell? ⟨w.heap.size, 1, none⟩ = some (.int .u8 g) ∧ w'.cell? ⟨w.heap.size, 2, none⟩ = some (.int .u8 b) ∧ w'.cell? ⟨w.heap.size + 1, 0, none⟩ = some (.int .u8 r') ∧ w'.cell? ⟨w.heap.size + 1, 1, none⟩ = some (.int .u8 g') ∧ w'.cell? ⟨w.heap.size + 1, 2, none⟩ = some (.int .u8 b') ∧ w'.cell? ⟨pc, 0, none⟩ = some (.int .i64 (255 * a + a' * (255 - a)))) (first | (simp [*]; done) | (refine ⟨?_, ?_, ?_, ?_, ?_, ?_, ?_⟩ <;> ((repeat rw [World.cell?_setCell_far _ _ _ _ (by simp <;> omega)]) <;> simp [*])))
      (first
        | (go_at_call 39; refine (HCOL.out _ _ _ (by assumption) (by assumption) ?_).mono ?_; (exact ⟨by simp [*], by simp [*], by simp [*], by rw [HC.out]; simp [*]⟩); rintro e w' ⟨rfl, nn, rfl⟩)
        | (go_at_call 40; refine (round_any _ _ _ (by omega) (by omega) (by omega) (by omega)).mono ?_; rintro e w' ⟨rfl, rfl⟩))
    clear HCOL
    go_wp2
    rw [HC.out]
    refine bodyPost_ret (v := .tuple #[pixv (Pix.color 5 a a' r r') (Pix.color 5 a a' g g') (Pix.color 5 a a' b b') (Pix.rnd (255 * a + a' * (255 - a)) 255), .nilIface]) (by simp [results, Tryd.results20, go_sem, *]) rfl ⟨rfl, ?_⟩
    repeat (first | exact o1 | refine Below.setCell ?_ (by simp <;> omega) _ | apply below_drewN)
end Go.Proofs.YteacjlalekbhpaaDoor
