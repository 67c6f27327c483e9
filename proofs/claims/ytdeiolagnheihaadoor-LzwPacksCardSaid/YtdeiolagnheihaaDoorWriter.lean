/- A writer of bits: what its memory says (a number and how many bits), and the contract of 'one'. -/
import Derived.Test.YtdeiolagnheihaaDoorMem
import Derived.Test.YtdeiolagnheihaaDoorBurst
namespace Go.Proofs.YtdeiolagnheihaaDoor
open Go.RowKit
def bytesV (l : List UInt8) : List Value := l.map fun b => Value.int .u8 (b.toNat : Int)
structure WAt (w : World) (B o : Nat) (v : Value) (V n : Nat) : Prop where
  c0 : w.cell? ⟨B, o, none⟩ = some v
  c1 : w.cell? ⟨B, o + 1, none⟩ = some (.int .i64 (n : Int))
  f0 : w.frozen? ⟨B, o, none⟩ = false
  f1 : w.frozen? ⟨B, o + 1, none⟩ = false
  row : ∃ l : List UInt8, l.length = (n + 7) / 8 ∧ Crc.num l = V ∧ w.ownsRow 0 5 1 v l.length (bytesV l)
  apart : v.ownBlock ≠ some B
  lt : V < 2 ^ n
structure WStep (w w' : World) (B o : Nat) (v v' : Value) : Prop where
  keeps : Keeps (fun k => k = B ∨ v.ownBlock = some k) w w'
  cells : ∀ j, j ≠ o → j ≠ o + 1 → w'.cell? ⟨B, j, none⟩ = w.cell? ⟨B, j, none⟩
  marks : ∀ j, w'.frozen? ⟨B, j, none⟩ = w.frozen? ⟨B, j, none⟩
  new : ∀ k, v'.ownBlock = some k → v.ownBlock = some k ∨ w.heap.size ≤ k
theorem WStep.refl (w : World) (B o : Nat) (v : Value) : WStep w w B o v v := ⟨Keeps.refl _ _, fun _ _ _ => rfl, fun _ => rfl, fun _ h => .inl h⟩
theorem WStep.trans {a b c : World} {B o : Nat} {u v x : Value} (h : WStep a b B o u v) (k : WStep b c B o v x) : WStep a c B o u x := by
  refine ⟨h.keeps.trans k.keeps ?_, fun j h1 h2 => (k.cells j h1 h2).trans (h.cells j h1 h2), fun j => (k.marks j).trans (h.marks j), ?_⟩
  · intro i hi q
    rcases q with q | q
    · exact .inl q
    · rcases h.new i q with r | r
      · exact .inr r
      · omega
  · intro i q
    rcases k.new i q with r | r
    · exact h.new i r
    · have := h.keeps.size; exact .inr (by omega)
theorem bytesV_length (l : List UInt8) : (bytesV l).length = l.length := by simp [bytesV]
theorem bytesV_get (l : List UInt8) (j : Nat) (h : j < l.length) : (bytesV l)[j]? = some (.int .u8 (l[j].toNat : Int)) := by simp [bytesV, h]
theorem bytesV_set (l : List UInt8) (j : Nat) (c : UInt8) : (bytesV l).set j (.int .u8 (c.toNat : Int)) = bytesV (l.set j c) := by simp [bytesV, List.map_set]
theorem num_append_zero (l : List UInt8) : Crc.num (l ++ [0]) = Crc.num l := by
  induction l with
  | nil => rfl
  | cons b l ih => show b.toNat + 256 * Crc.num (l ++ [0]) = _; rw [ih]; rfl
/-- a bit laid on top of a number that does not reach so far -/
theorem xor_top (V n b : Nat) (hV : V < 2 ^ n) : V ^^^ b * 2 ^ n = V + b * 2 ^ n := by
  have h := Nat.two_pow_add_eq_or_of_lt (i := n) (b := V) hV b
  have h2 : V + b * 2 ^ n = V ||| b * 2 ^ n := by rw [Nat.add_comm, Nat.mul_comm, h, Nat.or_comm]
  rw [h2]
  apply Nat.eq_of_testBit_eq; intro i
  rw [Nat.testBit_xor, Nat.testBit_or, Nat.mul_comm, Nat.testBit_two_pow_mul]
  by_cases hi : n ≤ i
  · rw [Nat.testBit_lt_two_pow (Nat.lt_of_lt_of_le hV (Nat.pow_le_pow_right (by decide) hi))]; simp
  · simp [hi]
theorem num_byte (l : List UInt8) : ∀ (j : Nat) (h : j < l.length), l[j].toNat = Crc.num l / 256 ^ j % 256 := by
  induction l with
  | nil => intro j h; simp at h
  | cons b l ih =>
    intro j h
    have hb : b.toNat < 256 := b.toNat_lt
    cases j with
    | zero => show b.toNat = (b.toNat + 256 * Crc.num l) / 1 % 256; omega
    | succ j =>
      simp only [List.getElem_cons_succ]
      rw [ih j (by simpa using h), Nat.pow_succ, Nat.mul_comm, ← Nat.div_div_eq_div_mul]
      show _ = (b.toNat + 256 * Crc.num l) / 256 / 256 ^ j % 256
      congr 2; omega
theorem or_byte (x b t : Nat) (hx : x < 2 ^ t) (hb : b ≤ 1) (ht : t < 8) : ∃ c : UInt8, c.toNat = x ^^^ b * 2 ^ t ∧ bits BinOp.or IntKind.u8 (x : Int) (((b * 2 ^ t : Nat) : Int)) = (c.toNat : Int) := by
  have h2 : 2 ^ t ≤ 2 ^ 7 := Nat.pow_le_pow_right (by decide) (by omega)
  have h3 : b * 2 ^ t ≤ 2 ^ t := by
    rcases (show b = 0 ∨ b = 1 by omega) with h | h <;> subst h <;> omega
  have hlt : x ^^^ b * 2 ^ t < 2 ^ 8 := Nat.xor_lt_two_pow (by omega) (by omega)
  have hc : (UInt8.ofNat (x ^^^ b * 2 ^ t)).toNat = x ^^^ b * 2 ^ t := by rw [UInt8.toNat_ofNat']; exact Nat.mod_eq_of_lt hlt
  refine ⟨UInt8.ofNat (x ^^^ b * 2 ^ t), hc, ?_⟩
  rw [hc, u8_or_nat _ _ (by omega) (by omega), xor_top x t b hx]
  have h := Nat.two_pow_add_eq_or_of_lt (i := t) (b := x) hx b
  rw [show x + b * 2 ^ t = 2 ^ t * b + x by rw [Nat.mul_comm, Nat.add_comm], h, Nat.mul_comm, Nat.or_comm]
/-- a bit more in the last byte: the memory behind it -/
theorem one_mem (w : World) (B o g cap n V b : Nat) (l : List UInt8) (hl : l.length = n / 8 + 1) (hV : Crc.num l = V) (hlt : V < 2 ^ n) (hb : b ≤ 1) (hne : g ≠ B)
    (c0 : w.cell? ⟨B, o, none⟩ = some (.slice (some ⟨g, 0, none⟩) l.length cap)) (c1 : w.cell? ⟨B, o + 1, none⟩ = some (.int .i64 (n : Int))) (f0 : w.frozen? ⟨B, o, none⟩ = false) (f1 : w.frozen? ⟨B, o + 1, none⟩ = false)
    (hown : w.ownsRow 0 5 1 (.slice (some ⟨g, 0, none⟩) l.length cap) l.length (bytesV l)) (hj : l.length - 1 < l.length) (x : Int)
    (hx : x = bits BinOp.or IntKind.u8 ((l[l.length - 1].toNat : Nat) : Int) ((b : Int) * 2 ^ (n % 8) % 256)) :
    WAt ((w.setCell ⟨g, l.length - 1, none⟩ (.int .u8 x)).setCell ⟨B, o + 1, none⟩ (.int .i64 ((n : Int) + 1))).drew B o (.slice (some ⟨g, 0, none⟩) l.length cap) (V + b * 2 ^ n) (n + 1) ∧
      WStep w ((w.setCell ⟨g, l.length - 1, none⟩ (.int .u8 x)).setCell ⟨B, o + 1, none⟩ (.int .i64 ((n : Int) + 1))).drew B o (.slice (some ⟨g, 0, none⟩) l.length cap) (.slice (some ⟨g, 0, none⟩) l.length cap) := by
  have ht : n % 8 < 8 := by omega
  have hsm : l[l.length - 1].toNat < 2 ^ (n % 8) := by
    rw [num_byte l _ hj]
    have e : n = 8 * (l.length - 1) + n % 8 := by omega
    have h2 : Crc.num l / 256 ^ (l.length - 1) < 2 ^ (n % 8) := by
      rw [show (256 : Nat) = 2 ^ 8 from rfl, ← Nat.pow_mul]
      refine Nat.div_lt_of_lt_mul ?_
      rw [← Nat.pow_add, ← e, hV]; exact hlt
    exact Nat.lt_of_le_of_lt (Nat.mod_le _ _) h2
  obtain ⟨c, hc1, hc2⟩ := or_byte l[l.length - 1].toNat b (n % 8) hsm hb ht
  have hpow : 2 ^ (n % 8) ≤ 2 ^ 7 := Nat.pow_le_pow_right (by decide) (by omega)
  have hm : (b : Int) * 2 ^ (n % 8) % 256 = ((b * 2 ^ (n % 8) : Nat) : Int) := by
    have h3 : b * 2 ^ (n % 8) < 256 := by
      rcases (show b = 0 ∨ b = 1 by omega) with h | h <;> subst h <;> omega
    rw [show (b : Int) * 2 ^ (n % 8) = ((b * 2 ^ (n % 8) : Nat) : Int) by simp]; omega
  rw [hm, hc2] at hx
  subst hx
  obtain ⟨st1, st2⟩ := hown.stored (l.length - 1) (.int .u8 (c.toNat : Int))
  rw [bytesV_set] at st1
  have a1 : (⟨g, l.length - 1, none⟩ : Addr) ≠ ⟨B, o, none⟩ := by intro e; injection e with e1; exact hne e1
  have a2 : (⟨g, l.length - 1, none⟩ : Addr) ≠ ⟨B, o + 1, none⟩ := by intro e; injection e with e1; exact hne e1
  have a3 : (⟨B, o + 1, none⟩ : Addr) ≠ ⟨B, o, none⟩ := by intro e; injection e with _ e2; omega
  have d0 := (World.cell?_setCell_other w _ _ (.int .u8 (c.toNat : Int)) a1).trans c0
  have d1 := (World.cell?_setCell_other w _ _ (.int .u8 (c.toNat : Int)) a2).trans c1
  refine ⟨⟨?_, ?_, ?_, ?_, ⟨l.set (l.length - 1) c, ?_, ?_, ?_⟩, ?_, ?_⟩, ⟨?_, ?_, ?_, ?_⟩⟩
  · exact (World.cell?_setCell_other _ _ _ _ a3).trans d0
  · exact World.cell?_setCell_same _ _ _ d1
  · show World.frozen? (World.setCell _ _ _) _ = _; rw [World.frozen?_setCell, World.frozen?_setCell]; exact f0
  · show World.frozen? (World.setCell _ _ _) _ = _; rw [World.frozen?_setCell, World.frozen?_setCell]; exact f1
  · rw [List.length_set]; omega
  · have e1 : l[l.length - 1].toNat ^^^ c.toNat = b * 2 ^ (n % 8) := by rw [hc1, ← Nat.xor_assoc, Nat.xor_self, Nat.zero_xor]
    rw [Crc.num_set l _ c hj, e1, hV, Nat.mul_assoc, show (256 : Nat) = 2 ^ 8 from rfl, ← Nat.pow_mul, ← Nat.pow_add, show n % 8 + 8 * (l.length - 1) = n by omega, xor_top V n b hlt]
  · rw [List.length_set]
    exact ownsRow_setCell_other st1 (by intro e; exact hne (Option.some.inj e)) _
  · intro e; exact hne (Option.some.inj e)
  · rw [Nat.pow_succ]
    rcases (show b = 0 ∨ b = 1 by omega) with h | h <;> subst h <;> omega
  · exact ((Keeps.refl _ w).setCell (.inl (.inr rfl)) _ |>.setCell (.inl (.inl rfl)) _).drew
  · intro j h1 h2
    have b1 : (⟨B, o + 1, none⟩ : Addr) ≠ ⟨B, j, none⟩ := by intro e; injection e with _ e2; exact h2 e2.symm
    have b2 : (⟨g, l.length - 1, none⟩ : Addr) ≠ ⟨B, j, none⟩ := by intro e; injection e with e1; exact hne e1
    exact (World.cell?_setCell_other _ _ _ _ b1).trans (World.cell?_setCell_other _ _ _ _ b2)
  · intro j; show World.frozen? (World.setCell _ _ _) _ = _; rw [World.frozen?_setCell, World.frozen?_setCell]
  · intro k hk; exact .inl hk
theorem u8info : (Tryd.prog.info? 5).map (fun i => (i.zero, i.size, i.bytes)) = some (some (.int .u8 0), 1, 1) := by kernel_rfl
set_option maxRecDepth 100000 in
set_option maxHeartbeats 1000000 in
/-- within a byte -/
theorem one_in (B o n V b : Nat) (v : Value) (w : World) (hW : WAt w B o v V n) (hb : b ≤ 1) (hn : n < 1099511627776) (h8 : n % 8 ≠ 0) :
    Calls Tryd.prog 81 #[.pointer (some ⟨B, o, none⟩), .int .u32 (b : Int)] w fun e w' => e = .returned (.tuple #[]) ∧ ∃ v', WAt w' B o v' (V + b * 2 ^ n) (n + 1) ∧ WStep w w' B o v v' := by
  obtain ⟨c0, c1, f0, f1, ⟨l, hl, hV, hown⟩, hap, hlt⟩ := hW
  have hpos : 0 < l.length := by omega
  obtain ⟨g, cap, rfl, hcap, hg⟩ := ownsRow_some hown hpos
  have hj : l.length - 1 < l.length := by omega
  have hcell : w.cell? ⟨g, l.length - 1, none⟩ = some (.int .u8 (l[l.length - 1].toNat : Int)) := by
    rw [hown.cellAt _ (by omega), bytesV_get l _ hj]
  have hfr := hown.frozenAt (l.length - 1)
  have hne : g ≠ B := fun e => hap (by rw [e]; rfl)
  have hq : ((n : Int) % 8 == 0) = false := by rw [beq_eq_false_iff_ne]; omega
  have H8 := Lib.hid h8
  have HL := Lib.hid hl
  have HV := Lib.hid hV
  have hlen : (l.length : Int) ≤ 1099511627776 := by omega
  have hlen1 : (1 : Int) ≤ (l.length : Int) := by omega
  clear h8 hl hV
  go_enter Tryd.func81, Tryd.ntmps81
  go_wp2
  go_region
  go_wp2
  go_end0
  refine ⟨rfl, .slice (some ⟨g, 0, none⟩) l.length cap, ?_⟩
  exact one_mem w B o g cap n V b l (by have := HL.out; have := H8.out; omega) HV.out hlt hb hne c0 c1 f0 f1 hown hj _ rfl
set_option maxRecDepth 100000 in
set_option maxHeartbeats 1000000 in
/-- a new byte -/
theorem one_new (B o n V b : Nat) (v : Value) (w : World) (hW : WAt w B o v V n) (hb : b ≤ 1) (hn : n < 1099511627776) (h8 : n % 8 = 0) :
    Calls Tryd.prog 81 #[.pointer (some ⟨B, o, none⟩), .int .u32 (b : Int)] w fun e w' => e = .returned (.tuple #[]) ∧ ∃ v', WAt w' B o v' (V + b * 2 ^ n) (n + 1) ∧ WStep w w' B o v v' := by
  obtain ⟨c0, c1, f0, f1, ⟨l, hl, hV, hown⟩, hap, hlt⟩ := hW
  have hB : B < w.heap.size := World.block_lt_of_cell? w _ c0
  have hq : ((n : Int) % 8 == 0) = true := by rw [beq_iff_eq]; omega
  obtain ⟨i0, hi, hz0, hz1, hz2⟩ := info_parts u8info
  have H8 := Lib.hid h8
  have HL := Lib.hid hl
  have HV := Lib.hid hV
  have hlen : l.length ≤ 1099511627776 := by omega
  clear h8 hl hV
  go_enter Tryd.func81, Tryd.ntmps81
  go_wp2_with (at_builtin; refine wpList_append_own_at _ rfl _ _ 23 rfl 0 5 i0 (.int .u8 0) 1 1 Tryd.underlying23 hi hz0 hz1 hz2 rfl (by decide) _ _ _ rfl (hown.alloc _) ⟨w.heap.size, 0, none⟩ 1 1 [.int .u8 0] rfl rfl ?c1 ?c2 ?c3 ?c4 ?c5 ?_)
  case c1 => exact (cell_one_new _ _ _)
  case c2 => intro u hu; simp at hu; subst hu; rfl
  case c3 => unfold maxLen; omega
  case c4 => omega
  case c5 => simp
  intro v' w' hown' hgrow _ hat
  have K : Keeps (fun k => v.ownBlock = some k) w w' := ((Keeps.refl _ w).alloc _).trans (Keeps.grown hgrow) (fun _ _ q => q)
  have hsz : w.heap.size + 1 ≤ w'.heap.size := by have := hgrow.size; simpa using this
  have e0 : w'.cell? ⟨B, o, none⟩ = some v := (K.cell hB hap).trans c0
  have e1 : w'.cell? ⟨B, o + 1, none⟩ = some (.int .i64 (n : Int)) := (K.cell hB hap).trans c1
  have z0 : w'.frozen? ⟨B, o, none⟩ = false := (K.frozen hB hap).trans f0
  have z1 : w'.frozen? ⟨B, o + 1, none⟩ = false := (K.frozen hB hap).trans f1
  have hnew : ∀ k, v'.ownBlock = some k → v.ownBlock = some k ∨ w.heap.size ≤ k := by
    intro k hk
    rcases hat with q | q
    · rw [q] at hk; exact .inl hk
    · rw [q] at hk; injection hk with hk; have : w.heap.size ≤ (w.alloc (.cells #[.int .u8 0] 5)).heap.size := by simp
      exact .inr (by omega)
  have hap' : v'.ownBlock ≠ some B := fun e => by rcases hnew B e with q | q; exact hap q; omega
  have hown2 : w'.ownsRow 0 5 1 v' (l ++ [0]).length (bytesV (l ++ [0])) := by
    have q := hown'; simp only [bytesV, List.map_append, List.length_append] at q ⊢; exact q
  obtain ⟨g, cap, hv, hcap, hg⟩ := ownsRow_some hown2 (by simp)
  have HP : Hid (w'.ownsRow 0 5 1 v' (l ++ [0]).length (bytesV (l ++ [0])) ∧ v'.ownBlock ≠ some B ∧ ∀ k, v'.ownBlock = some k → v.ownBlock = some k ∨ w.heap.size ≤ k) := ⟨hown2, hap', hnew⟩
  have ST : WStep w (w'.setCell ⟨B, o, none⟩ v') B o v v' := by
    refine ⟨(K.mono fun _ _ q => .inr q).setCell (.inl (.inl rfl)) _, ?_, ?_, hnew⟩
    · intro j h1 h2
      refine (World.cell?_setCell_other _ _ _ _ (by intro e; injection e with _ e2; exact h1 e2.symm)).trans (K.cell hB hap)
    · intro j
      rw [World.frozen?_setCell]; exact K.frozen hB hap
  have HST := Lib.hid ST
  clear ST
  clear hown' hgrow hown2 hap' hnew hat K c0 c1 f0 f1
  rw [hv] at HP HST ⊢
  clear hv
  obtain ⟨hown3, hap3, hnew3⟩ := HP.out
  have hne : g ≠ B := fun e => hap3 (by rw [e]; rfl)
  have eL : (l ++ [0]).length = l.length + 1 := by simp
  rw [eL] at hown3 HST
  go_wp2
  have a1 : (⟨B, o, none⟩ : Addr) ≠ ⟨B, o + 1, none⟩ := by intro e; injection e with _ e2; omega
  have y0 : (w'.setCell ⟨B, o, none⟩ (.slice (some ⟨g, 0, none⟩) (l.length + 1) cap)).cell? ⟨B, o, none⟩ = some (.slice (some ⟨g, 0, none⟩) (l.length + 1) cap) := World.cell?_setCell_same _ _ _ e0
  have y1 : (w'.setCell ⟨B, o, none⟩ (.slice (some ⟨g, 0, none⟩) (l.length + 1) cap)).cell? ⟨B, o + 1, none⟩ = some (.int .i64 (n : Int)) := (World.cell?_setCell_other _ _ _ _ a1).trans e1
  have x0 : (w'.setCell ⟨B, o, none⟩ (.slice (some ⟨g, 0, none⟩) (l.length + 1) cap)).frozen? ⟨B, o, none⟩ = false := by rw [World.frozen?_setCell]; exact z0
  have x1 : (w'.setCell ⟨B, o, none⟩ (.slice (some ⟨g, 0, none⟩) (l.length + 1) cap)).frozen? ⟨B, o + 1, none⟩ = false := by rw [World.frozen?_setCell]; exact z1
  have hown4 : (w'.setCell ⟨B, o, none⟩ (.slice (some ⟨g, 0, none⟩) (l.length + 1) cap)).ownsRow 0 5 1 (.slice (some ⟨g, 0, none⟩) (l.length + 1) cap) (l.length + 1) (bytesV (l ++ [0])) := ownsRow_setCell_other hown3 (by intro e; exact hne (Option.some.inj e)) _
  clear a1 e0 e1 z0 z1 hown3 hsz
  generalize (w'.setCell ⟨B, o, none⟩ (.slice (some ⟨g, 0, none⟩) (l.length + 1) cap)) = w2 at *
  have hj : l.length < (l ++ [0]).length := by omega
  have hcell : w2.cell? ⟨g, l.length, none⟩ = some (.int .u8 ((l ++ [0])[l.length].toNat : Int)) := by
    rw [hown4.cellAt _ (by omega), bytesV_get (l ++ [0]) _ hj]
  have hfr := hown4.frozenAt l.length
  have hlenI : (l.length : Int) ≤ 1099511627776 := by omega
  have HE := Lib.hid eL
  clear eL
  go_wp2
  go_region
  go_wp2
  go_end0
  refine ⟨rfl, .slice (some ⟨g, 0, none⟩) (l.length + 1) cap, ?_⟩
  have q := one_mem w2 B o g cap n V b (l ++ [0]) (by rw [HE.out, HL.out]; have := H8.out; omega) (by rw [num_append_zero]; exact HV.out) hlt hb hne (by rw [HE.out]; exact y0) y1 x0 x1 (by rw [HE.out]; exact hown4) (by rw [HE.out]; omega)
    (bits BinOp.or IntKind.u8 0 ((b : Int) * 2 ^ (n % 8) % 256)) (by simp)
  simp only [HE.out, Nat.add_sub_cancel] at q
  exact ⟨q.1, HST.out.trans q.2⟩
/-- one bit more, whatever it is: only whether the number is odd counts -/
theorem one_calls (B o n V b : Nat) (v : Value) (w : World) (hW : WAt w B o v V n) (hb : b ≤ 1) (hn : n < 1099511627776) :
    Calls Tryd.prog 81 #[.pointer (some ⟨B, o, none⟩), .int .u32 (b : Int)] w fun e w' => e = .returned (.tuple #[]) ∧ ∃ v', WAt w' B o v' (V + b * 2 ^ n) (n + 1) ∧ WStep w w' B o v v' := by
  by_cases h : n % 8 = 0
  · exact one_new B o n V b v w hW hb hn h
  · exact one_in B o n V b v w hW hb hn h
end Go.Proofs.YtdeiolagnheihaaDoor
