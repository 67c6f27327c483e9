/-
  huff's Tree.Next: what symbol comes next.
  Symbols written by their words and read again: plain laws.
  Blocks that are known whole: variables that a call made. No function of the program is named.
  Tokens: what they mean, as lists; rows of tokens as they lie in memory; a row of bytes that grows. No function of the program is named.
  A packed text read: a plain machine. No function of the program is named.
  huff.Read, huff.Codes of lengths that are not right.
  A reader of bits: Align.
  A reader of bits: Bytes.
  A text in blocks, and back: the plain law; rows of bytes that grow. No function of the program is named.
-/
import Derived.Test.YtnhbjgmfbcedaaaDoorDeflateFixedG2
import Derived.Test.YtnhbjgmfbcedaaaDoorDeflateFixedG3
import Derived.Test.YtnhbjgmfbcedaaaDoorDeflateFixedG1
import Derived.StillTailTactics
import Derived.Deep.DeepCutAuto
import Derived.Lib.AppendStr
namespace Go.Proofs.YtnhbjgmfbcedaaaDoor
open Go.RowKit
set_option linter.unusedSimpArgs false
set_option linter.unusedVariables false
set_option maxRecDepth 100000
theorem TAt.kept {S : Nat → Prop} {w w' : World} {T : Nat} {v : Value} {f : Nat → Int} {len : Nat} {l : List Nat} (h : TAt w T v f len l) (hk : Keeps S w w') (hT : ¬ S T) (hv : ∀ k, v.ownBlock = some k → ¬ S k) : TAt w' T v f len l := by
  have hlt : T < w.heap.size := World.block_lt_of_cell? w _ h.cell
  exact ⟨fun j hj => (hk.cell (p := ⟨T, j, none⟩) hlt hT).trans (h.many j hj), (hk.cell (p := ⟨T, 16, none⟩) hlt hT).trans h.cell, (hk.frozen (p := ⟨T, 16, none⟩) hlt hT).trans h.free, ownsRow_kept h.row hk hv, h.apart⟩
theorem or_bit (c b : Nat) (hc : c < 1048576) (hb : b < 2) : bits BinOp.or IntKind.i64 ((2 * c : Nat) : Int) (b : Int) = ((2 * c + b : Nat) : Int) := by
  have e : (2 * c) ||| b = 2 * c + b := by
    have := Nat.two_pow_add_eq_or_of_lt (i := 1) (b := b) (by omega) c
    simpa using this.symm
  show IntKind.i64.wrap ((BitVec.ofInt 64 ((2 * c : Nat) : Int) ||| BitVec.ofInt 64 (b : Int)).toNat : Int) = _
  rw [BitVec.ofInt_natCast, BitVec.ofInt_natCast, BitVec.toNat_or, BitVec.toNat_ofNat, BitVec.toNat_ofNat, Nat.mod_eq_of_lt (by omega), Nat.mod_eq_of_lt (by omega), e, IntKind.wrap_i64]
  omega
theorem RAt.lt {w : World} {B o a : Nat} {s : ByteArray} (h : RAt w B o s a) : B < w.heap.size := World.block_lt_of_cell? w _ h.c0
theorem RAt.ext {w w' : World} {B o a : Nat} {s : ByteArray} (h : RAt w B o s a) (hE : Ext w w') : RAt w' B o s a :=
  ⟨(hE.cell (p := ⟨B, o, none⟩) h.lt).trans h.c0, (hE.cell (p := ⟨B, o + 1, none⟩) h.lt).trans h.c1, (hE.frozen (p := ⟨B, o + 1, none⟩) h.lt).trans h.f1, h.size, h.le⟩
theorem RStep.of_ext {w w' : World} {B : Nat} (o : Nat) (hE : Ext w w') (hB : B < w.heap.size) : RStep w w' B o :=
  ⟨hE.keeps, fun j _ => hE.cell (p := ⟨B, j, none⟩) hB, fun j => hE.frozen (p := ⟨B, j, none⟩) hB⟩
theorem RStep.after {w0 w w' : World} {B o : Nat} (h : RStep w w' B o) (hX : Ext w0 w) (hB : w0.heap.size ≤ B) : Ext w0 w' := Below.trans hX (h.below hB hX.size)
def NextIs (w' : World) (e : Ending) (B o : Nat) (s : ByteArray) (a : Nat) (f : Nat → Int) (len : Nat) (E : Nat → Addr) : Prop :=
  (∃ n k, 1 ≤ n ∧ n ≤ 15 ∧ a + n ≤ 8 * s.size ∧ NoHit f len (Crc.num s.data.toList) a (n - 1) ∧ k < len ∧ f k = (n : Int) ∧ word f len k = codeAt (Crc.num s.data.toList) a n ∧ e = .returned (.tuple #[.int .i64 (k : Int), .nilIface]) ∧ RAt w' B o s (a + n)) ∨
  ((∀ m, m ≤ 15 → a + m ≤ 8 * s.size → NoHit f len (Crc.num s.data.toList) a m) ∧ e = .returned (.tuple #[.int .i64 0, sentV (E 0)]) ∧ ∃ a', a' ≤ 8 * s.size ∧ RAt w' B o s a')
theorem next_none (T B o a : Nat) (x : Option Addr) (cap : Nat) (f : Nat → Int) (len : Nat) (s : ByteArray) (w0 w : World) (E : Nat → Addr) (hE : Errs w0 E) (hX : Ext w0 w) (hU : upTo f len 15 = 0) (hT : w.cell? ⟨T, 16, none⟩ = some (.slice x 0 cap)) (hR : RAt w B o s a) (ha : a ≤ 8 * s.size) :
    Calls Tryd.prog 110 #[.pointer (some ⟨T, 0, none⟩), .pointer (some ⟨B, o, none⟩)] w fun e w' => NextIs w' e B o s a f len E ∧ RStep w w' B o := by
  have hv := (hE.ext hX).var 0 (by decide)
  simp only [gk, sentV] at hv
  have HR := Lib.hid hR
  have HU := Lib.hid hU
  clear hE hX hR hU
  go_enter Tryd.func110, Tryd.ntmps110
  go_wp2_with fail
  refine wp_loop_rounds 1 ?_
  rw [rounds_succ]
  go_wp2_with fail
  go_region
  all_goals go_wp2_with fail
  all_goals go_ret2
  all_goals exact ⟨.inr ⟨fun m hm _ => by
    intro j h1 h2
    exact NoHit.all (NoHit.zero f len (Crc.num s.data.toList) a) (by rw [HU.out]; exact Nat.zero_le _) (by omega) j h1 (by omega), rfl, a, ha, HR.out.drewN 1⟩, (RStep.refl _ _ _).drewN 1⟩
theorem next_some (T B o a g cap : Nat) (f : Nat → Int) (len : Nat) (s : ByteArray) (w0 w : World) (E : Nat → Addr) (hE : Errs w0 E) (hX : Ext w0 w) (hB : w0.heap.size ≤ B) (hl : len ≤ 300) (hT : TAt w T (.slice (some ⟨g, 0, none⟩) (upTo f len 15) cap) f len (symA f len 15)) (hR : RAt w B o s a) (ha : a ≤ 8 * s.size) (hTB : T ≠ B) (hvB : g ≠ B) :
    Calls Tryd.prog 110 #[.pointer (some ⟨T, 0, none⟩), .pointer (some ⟨B, o, none⟩)] w fun e w' => NextIs w' e B o s a f len E ∧ RStep w w' B o := by
  have hsz := hR.size
  have HE := Lib.hid hE
  have HX := Lib.hid hX
  have HT := Lib.hid hT
  have HR := Lib.hid hR
  have HTB := Lib.hid hTB
  have HVB := Lib.hid hvB
  have HLL := Lib.hid (symA_length f len 15)
  have HS0 := Lib.hid (hit_sym f len)
  clear hE hX hT hR hTB hvB
  go_enter Tryd.func110, Tryd.ntmps110
  go_wp2_with fail
  go_loopw [6, 7, 8, 9] (fun c fi at_ n wr => ∃ m : Nat, m ≤ 15 ∧ c = .int .i64 ((2 * codeAt (Crc.num s.data.toList) a m : Nat) : Int) ∧ fi = .int .i64 (first f len (m + 1) : Int) ∧ at_ = .int .i64 (upTo f len m : Int) ∧ n = .int .i64 ((m : Int) + 1) ∧ Hid (NoHit f len (Crc.num s.data.toList) a m) ∧ a + m ≤ 8 * s.size ∧ Hid (RAt wr B o s (a + m)) ∧ Hid (RStep w wr B o)) (fun _ _ _ n _ => 16 - (intOf n).toNat)
  case atStart => exact ⟨0, by omega, rfl, rfl, rfl, rfl, Lib.hid (NoHit.zero _ _ _ _), by omega, HR, Lib.hid (RStep.refl _ _ _)⟩
  case round =>
    obtain ⟨m, hm, rfl, rfl, rfl, rfl, HN, ham, HA, HS⟩ := hrel
    have hTw := HT.out.kept (S := fun k => k = B) HS.out.keeps HTB.out (fun k hk e => HVB.out (by cases hk; exact e))
    have hcl : codeAt (Crc.num s.data.toList) a m < 32768 := Nat.lt_of_lt_of_le (codeAt_lt _ _ m) (Nat.pow_le_pow_right (n := 2) (by decide) hm)
    have hu1 : upTo f len m ≤ 4500 := Nat.le_trans (upTo_bd f len m) (Nat.mul_le_mul hm hl)
    have hu2 : upTo f len 15 ≤ 4500 := Nat.le_trans (upTo_bd f len 15) (Nat.mul_le_mul (Nat.le_refl _) hl)
    have hfi := HN.out.next
    have c16 := hTw.cell
    have HTW := Lib.hid hTw
    clear hTw
    obtain ⟨C, hC⟩ : ∃ C, 2 * codeAt (Crc.num s.data.toList) a m = C := ⟨_, rfl⟩
    obtain ⟨F, hF⟩ : ∃ F, first f len (m + 1) = F := ⟨_, rfl⟩
    obtain ⟨U, hU⟩ : ∃ U, upTo f len m = U := ⟨_, rfl⟩
    obtain ⟨V, hV⟩ : ∃ V, upTo f len 15 = V := ⟨_, rfl⟩
    have hC2 : C ≤ 65536 := by omega
    rw [hC, hF] at hfi
    rw [hU] at hu1
    rw [hV] at hu2 c16
    rw [hC, hF, hU]
    have HC := Lib.hid hC
    have HF := Lib.hid hF
    have HU := Lib.hid hU
    have HV := Lib.hid hV
    clear hC hF hU hV hcl
    by_cases hgo : m < 15 ∧ U < V
    · obtain ⟨hm15, hup⟩ := hgo
      have t1 : decide ((m : Int) + 1 ≤ 15) = true := decide_eq_true (by omega)
      have t2 : decide (U < V) = true := decide_eq_true hup
      by_cases hbit : a + m + 1 ≤ 8 * s.size
      · obtain ⟨b, hb⟩ : ∃ b, Crc.num s.data.toList / 2 ^ (a + m) % 2 = b := ⟨_, rfl⟩
        have hb2 : b < 2 := by rw [← hb]; exact Nat.mod_lt _ (by decide)
        have HBI := Lib.hid hb
        clear hb
        go_wp2_with fail
        refine (get_in B o (a + m) 1 s _ HA.out (by omega) hbit).mono ?_
        rintro e w2 ⟨rfl, hA2, hS2⟩
        rw [show (2 : Nat) ^ 1 = 2 from rfl, HBI.out]
        have HA2 := Lib.hid hA2
        have HS2 := Lib.hid (HS.out.trans hS2)
        have hTw2 := HT.out.kept (S := fun k => k = B) (HS2.out).keeps HTB.out (fun k hk e => HVB.out (by cases hk; exact e))
        have hcn := hTw2.many (m + 1) (by omega)
        have c16' := hTw2.cell
        rw [HV.out] at c16'
        have HTW2 := Lib.hid hTw2
        obtain ⟨K, hK⟩ : ∃ K, many f (m + 1) len = K := ⟨_, rfl⟩
        have hKl : K ≤ 300 := by rw [← hK]; exact Nat.le_trans (many_le f (m + 1) len) hl
        rw [hK] at hcn
        obtain ⟨D, hD⟩ : ∃ D, C + b = D := ⟨_, rfl⟩
        have hor : bits BinOp.or IntKind.i64 (C : Int) (b : Int) = (D : Int) := by
          have := or_bit (codeAt (Crc.num s.data.toList) a m) b (Nat.lt_of_lt_of_le (codeAt_lt _ _ m) (Nat.pow_le_pow_right (n := 2) (by decide) (by omega : m ≤ 20))) hb2
          rw [HC.out] at this; rw [this, hD]
        have HOR := Lib.hid hor
        have hD1 : C ≤ D := by omega
        have hD2 : D ≤ C + 1 := by omega
        have HD := Lib.hid hD
        have HK := Lib.hid hK
        clear hA2 hS2 hTw2 c16 hD hK
        by_cases hhit : D < F + K
        · have t3 : decide ((D : Int) - F < K) = true := decide_eq_true (by omega)
          have hcode : codeAt (Crc.num s.data.toList) a (m + 1) = D := by
            rw [← HD.out, ← HC.out, ← HBI.out]; rfl
          obtain ⟨k, hk1, hk2, hk3, hk4⟩ := HS0.out D (m + 1) (by omega) (by omega) (by rw [HF.out]; omega) (by rw [HF.out, HK.out]; exact hhit)
          rw [Nat.add_sub_cancel, HU.out, HF.out] at hk1
          have hidx : U + D - F < V := by
            rw [← HV.out, ← HLL.out]
            rcases Nat.lt_or_ge (U + (D - F)) (symA f len 15).length with q | q
            · omega
            · rw [List.getElem?_eq_none q] at hk1; cases hk1
          have hrow := HTW2.out.row
          rw [HLL.out, HV.out] at hrow
          have hcell : w2.cell? ⟨g, U + D - F, none⟩ = some (.int .i64 (k : Int)) := by
            have q := hrow.cellAt (U + D - F) (by omega)
            rw [q]; unfold symV; rw [List.getElem?_map, show U + D - F = U + (D - F) by omega, hk1]; rfl
          have HK2 := Lib.hid hk2
          have HK3 := Lib.hid hk3
          have HK4 := Lib.hid hk4
          have HCD := Lib.hid hcode
          have hi1 : (0 : Int) ≤ (U : Int) + D - F := by omega
          have hi2 : (U : Int) + D - F < (V : Int) := by omega
          clear hrow hk1 hk2 hk3 hk4 hcode t3 hcn hor
          have t3 : decide ((D : Int) - F < K) = true := decide_eq_true (by omega)
          have hcn := HTW2.out.many (m + 1) (by omega)
          rw [HK.out] at hcn
          have hor : bits BinOp.or IntKind.i64 (C : Int) (b : Int) = (D : Int) := HOR.out
          go_wp2_with fail
          go_ret2
          refine ⟨.inl ⟨m + 1, k, by omega, by omega, by omega, ?_, HK2.out, HK3.out, ?_, rfl, HA2.out⟩, HS2.out⟩
          · rw [Nat.add_sub_cancel]; exact HN.out
          · rw [HCD.out]; exact HK4.out
        · have t3 : decide ((D : Int) - F < K) = false := decide_eq_false (by omega)
          go_wp2_with fail
          go_roundw
          case rel =>
            have hcode : codeAt (Crc.num s.data.toList) a (m + 1) = D := by
              rw [← HD.out, ← HC.out, ← HBI.out]; rfl
            refine ⟨m + 1, by omega, ?_, ?_, ?_, by go_num, Lib.hid (HN.out.succ ?_), by omega, HA2, HS2⟩
            · rw [hcode]; exact val_int (by omega)
            · rw [first_succ f len (m + 1) (by omega), HF.out, HK.out]; exact val_int (by omega)
            · exact val_int (by rw [← HU.out, ← HK.out]; simp only [upTo]; omega)
            · rw [hcode, HF.out, HK.out]; omega
          case measure => simp [intOf]; omega
      · have hv := (HE.out.ext (HS.out.after HX.out hB)).var 0 (by decide)
        go_wp2_with fail
        refine (get_text B o (a + m) 1 s _ E (HE.out.ext (HS.out.after HX.out hB)) HA.out (by omega) (by omega) ham).mono ?_
        rintro e w2 ⟨rfl, h2⟩
        have HA2 := Lib.hid (HA.out.ext h2)
        have HS2 := Lib.hid (HS.out.trans (RStep.of_ext o h2 HA.out.lt))
        clear h2 hv c16
        unfold sentV
        go_wp2_with fail
        go_ret2
        refine ⟨.inr ⟨fun m' h1 h2 => ?_, rfl, a + m, ham, HA2.out⟩, HS2.out⟩
        have : m' ≤ m := by omega
        exact fun j q1 q2 => HN.out j q1 (by omega)
    · have hv := (HE.out.ext (HS.out.after HX.out hB)).var 0 (by decide)
      simp only [gk, sentV] at hv
      by_cases hm15 : m < 15
      · have t1 : decide ((m : Int) + 1 ≤ 15) = true := decide_eq_true (by omega)
        have t2 : decide (U < V) = false := decide_eq_false (by omega)
        have huv : V ≤ U := by omega
        go_wp2_with fail
        go_region
        all_goals go_wp2_with fail
        all_goals go_ret2
        all_goals exact ⟨.inr ⟨fun m' h1 h2 => fun j q1 q2 => NoHit.all HN.out (by rw [HV.out, HU.out]; exact huv) hm j q1 (by omega), rfl, a + m, ham, HA.out.drewN 1⟩, HS.out.drewN 1⟩
      · have t1 : decide ((m : Int) + 1 ≤ 15) = false := decide_eq_false (by omega)
        go_wp2_with fail
        go_region
        all_goals go_wp2_with fail
        all_goals go_ret2
        all_goals exact ⟨.inr ⟨fun m' h1 h2 => fun j q1 q2 => HN.out j q1 (by omega), rfl, a + m, ham, HA.out.drewN 1⟩, HS.out.drewN 1⟩
theorem next_any (T B o a : Nat) (v : Value) (f : Nat → Int) (len : Nat) (s : ByteArray) (w0 w : World) (E : Nat → Addr) (hE : Errs w0 E) (hX : Ext w0 w) (hB : w0.heap.size ≤ B) (hl : len ≤ 300) (hT : TAt w T v f len (symA f len 15)) (hR : RAt w B o s a) (ha : a ≤ 8 * s.size) (hTB : T ≠ B) (hvB : v.ownBlock ≠ some B) :
    Calls Tryd.prog 110 #[.pointer (some ⟨T, 0, none⟩), .pointer (some ⟨B, o, none⟩)] w fun e w' => NextIs w' e B o s a f len E ∧ RStep w w' B o := by
  have hrow := hT.row
  rcases ownsRow_slice hrow with ⟨rfl, h2⟩ | ⟨g, cap, rfl⟩
  · exact next_none T B o a none 0 f len s w0 w E hE hX (by rw [← symA_length]; exact h2) hT.cell hR ha
  · rw [symA_length] at hT hvB
    exact next_some T B o a g cap f len s w0 w E hE hX hB hl hT hR ha hTB (fun e => hvB (by rw [e]; rfl))
end Go.Proofs.YtnhbjgmfbcedaaaDoor
namespace Go.Proofs.YtnhbjgmfbcedaaaDoor
open Go.RowKit
set_option linter.unusedSimpArgs false
set_option linter.unusedVariables false
/-- how many bits symbols take, and what number they make -/
def posW (f : Nat → Int) : List Nat → Nat
  | [] => 0
  | k :: l => (f k).toNat + posW f l
def vsW (f : Nat → Int) (len : Nat) : List Nat → Nat
  | [] => 0
  | k :: l => Bts.val (Bts.high (word f len k) (f k).toNat) + 2 ^ (f k).toNat * vsW f len l
theorem posW_append (f : Nat → Int) (l m : List Nat) : posW f (l ++ m) = posW f l + posW f m := by
  induction l with
  | nil => simp [posW]
  | cons k l ih => simp only [List.cons_append, posW, ih]; omega
theorem vsW_append (f : Nat → Int) (len : Nat) (l m : List Nat) : vsW f len (l ++ m) = vsW f len l + 2 ^ posW f l * vsW f len m := by
  induction l with
  | nil => simp [posW, vsW]
  | cons k l ih => simp only [List.cons_append, posW, vsW, ih, Nat.mul_add, Nat.pow_add, Nat.mul_assoc]; omega
theorem vsW_lt (f : Nat → Int) (len : Nat) (l : List Nat) : vsW f len l < 2 ^ posW f l := by
  induction l with
  | nil => exact (by decide : 0 < 1)
  | cons k l ih =>
    simp only [posW, vsW, Nat.pow_add]
    have h := Bts.val_lt (Bts.high (word f len k) (f k).toNat)
    rw [Bts.high_length] at h
    have h2 : 2 ^ (f k).toNat * vsW f len l + 2 ^ (f k).toNat ≤ 2 ^ (f k).toNat * 2 ^ posW f l := by rw [← Nat.mul_succ]; exact Nat.mul_le_mul_left _ ih
    omega
theorem vsW_snoc (f : Nat → Int) (len : Nat) (l : List Nat) (k m : Nat) (hk : f k = m) : vsW f len (l ++ [k]) = vsW f len l + Bts.val (Bts.high (word f len k) m) * 2 ^ posW f l ∧ posW f (l ++ [k]) = posW f l + m := by
  rw [vsW_append, posW_append]
  simp only [vsW, posW, hk, Int.toNat_natCast]
  rw [Nat.mul_zero, Nat.add_zero, Nat.mul_comm]
  exact ⟨rfl, by omega⟩
theorem posW_le (f : Nat → Int) (l : List Nat) (h : ∀ k, k ∈ l → f k ≤ 15) : posW f l ≤ 15 * l.length := by
  induction l with
  | nil => exact Nat.le_refl _
  | cons k l ih =>
    have h1 := ih fun j hj => h j (List.mem_cons_of_mem _ hj)
    have h2 := h k (List.mem_cons_self)
    simp only [posW, List.length_cons]; omega
theorem word_lt2 (f : Nat → Int) (len k m : Nat) (hc : complete f len) (hk : k < len) (hf : f k = m) (h1 : 1 ≤ m) (h2 : m ≤ 15) : word f len k < first f len m + many f m len ∧ word f len k < 2 ^ m := by
  have hw : word f len k = first f len m + many f m k := by unfold word; rw [if_pos (by omega), hf]; rfl
  have := word_lt f len hc k m hk hf h1 h2
  omega
/-- what comes next where a symbol's word stands -/
theorem next_word {w' : World} {e : Ending} {B o a len k m : Nat} {s : ByteArray} {E : Nat → Addr} {f : Nat → Int} (h : NextIs w' e B o s a f len E) (hc : complete f len) (hk : k < len) (hf : f k = m) (h1 : 1 ≤ m) (h2 : m ≤ 15)
    (hs : a + m ≤ 8 * s.size) (hv : codeAt (Crc.num s.data.toList) a m = word f len k) : e = .returned (.tuple #[.int .i64 (k : Int), .nilIface]) ∧ RAt w' B o s (a + m) := by
  have hN := nohit_word hf h1 hv
  have hlt := (word_lt2 f len k m hc hk hf h1 h2).1
  rcases h with ⟨n, k', q1, q2, _, qN, q5, q6, q7, he, hR⟩ | ⟨hA, _, _⟩
  · have hlt' := (word_lt2 f len k' n hc q5 q6 q1 q2).1
    have hnm : n = m := by
      rcases Nat.lt_trichotomy n m with q | q | q
      · have := hN n q1 (by omega); omega
      · exact q
      · have := qN m h1 (by omega); omega
    subst hnm
    have hkk : k' = k := by
      rcases Nat.decEq k' k with q | q
      · have := apart f len k k' hk (fun e => q e.symm) (by omega) (by omega)
        rw [q6, hf, Int.sub_self, Int.toNat_zero, Nat.pow_zero, Nat.div_one, q7, hv] at this
        exact absurd rfl this
      · exact q
    subst hkk
    exact ⟨he, hR⟩
  · have := hA m h2 hs m h1 (Nat.le_refl _)
    omega
/-- the word that stands at a place of what was written -/
theorem code_there (f : Nat → Int) (len : Nat) (l r : List Nat) (k m : Nat) (hc : complete f len) (hk : k < len) (hf : f k = m) (h1 : 1 ≤ m) (h2 : m ≤ 15) : codeAt (vsW f len (l ++ k :: r)) (posW f l) m = word f len k := by
  have hw := (word_lt2 f len k m hc hk hf h1 h2).2
  rw [codeAt_high (word f len k) m, Nat.mod_eq_of_lt hw]
  rw [vsW_append, Nat.add_mul_div_left _ _ (Nat.two_pow_pos _), Nat.div_eq_of_lt (vsW_lt f len l), Nat.zero_add]
  simp only [vsW, hf, Int.toNat_natCast]
  rw [Nat.add_mul_mod_self_left]
  have h := Bts.val_lt (Bts.high (word f len k) m)
  rw [Bts.high_length] at h
  exact Nat.mod_eq_of_lt h
/-- which of numbers are symbols of a code -/
def toldL (f g : Nat → Int) (len : Nat) : Nat → List Nat
  | 0 => []
  | i + 1 => toldL f g len i ++ (if 0 ≤ g i ∧ g i < len ∧ f (g i).toNat ≠ 0 then [(g i).toNat] else [])
theorem toldL_no (f g : Nat → Int) (len i : Nat) (h : ¬ (0 ≤ g i ∧ g i < len ∧ f (g i).toNat ≠ 0)) : toldL f g len (i + 1) = toldL f g len i := by simp only [toldL]; rw [if_neg h, List.append_nil]
theorem toldL_yes (f g : Nat → Int) (len i k : Nat) (h : g i = k) (hk : k < len) (hf : f k ≠ 0) : toldL f g len (i + 1) = toldL f g len i ++ [k] := by
  simp only [toldL]; rw [if_pos ⟨by omega, by omega, by rw [h]; exact hf⟩, h]; rfl
theorem toldL_len (f g : Nat → Int) (len : Nat) : ∀ i, (toldL f g len i).length ≤ i := by
  intro i
  induction i with
  | zero => exact Nat.le_refl _
  | succ i ih => simp only [toldL, List.length_append]; split <;> simp <;> omega
theorem toldL_mem (f g : Nat → Int) (len : Nat) : ∀ i k, k ∈ toldL f g len i → k < len ∧ f k ≠ 0 := by
  intro i
  induction i with
  | zero => intro k h; cases h
  | succ i ih =>
    intro k h
    simp only [toldL, List.mem_append] at h
    rcases h with h | h
    · exact ih k h
    · split at h
      · rw [List.mem_singleton.1 h]; rename_i q; exact ⟨by omega, q.2.2⟩
      · cases h
theorem ownsRow_ne {w : World} {b b' e e' s s' n n' : Nat} {v v' : Value} {xs xs' : List Value} (h : w.ownsRow b e s v n xs) (h' : w.ownsRow b' e' s' v' n' xs') (hne : e ≠ e') : ∀ k, v.ownBlock = some k → v'.ownBlock ≠ some k := by
  intro k hk hk'
  rcases h.2 with ⟨rfl, _⟩ | ⟨g, cap, cur, rfl, _, hh, _⟩
  · cases hk
  · rcases h'.2 with ⟨rfl, _⟩ | ⟨g', cap', cur', rfl, _, hh', _⟩
    · cases hk'
    · have e1 : g = k := by simpa [Value.ownBlock] using hk
      have e2 : g' = k := by simpa [Value.ownBlock] using hk'
      subst e1; subst e2
      rw [hh] at hh'
      injection hh' with q; injection q with _ q2
      exact hne q2
theorem wat_kept {S : Nat → Prop} {w w' : World} {B o V n : Nat} {v : Value} (h : WAt w B o v V n) (hk : Keeps S w w') (hB : ¬ S B) (hv : ∀ k, v.ownBlock = some k → ¬ S k) : WAt w' B o v V n := by
  have hlt : B < w.heap.size := World.block_lt_of_cell? w _ h.c0
  obtain ⟨l, h1, h2, h3⟩ := h.row
  exact ⟨(hk.cell hlt hB).trans h.c0, (hk.cell hlt hB).trans h.c1, (hk.frozen hlt hB).trans h.f0, (hk.frozen hlt hB).trans h.f1, ⟨l, h1, h2, ownsRow_kept h3 hk hv⟩, h.apart, h.lt⟩
/-- a writer and a row of numbers beside it, both newer than H -/
structure WR (w0 w : World) (W0 : Nat) (u : Value) (V n : Nat) (t : Value) (l : List Nat) : Prop where
  ext : Ext w0 w
  wat : WAt w W0 0 u V n
  row : w.ownsRow 0 3 1 t l.length (symV l)
  wn : w0.heap.size ≤ W0
  un : ∀ k, u.ownBlock = some k → w0.heap.size ≤ k
  tn : ∀ k, t.ownBlock = some k → w0.heap.size ≤ k ∧ k ≠ W0
theorem WR.apart {w0 w : World} {W0 : Nat} {u : Value} {V n : Nat} {t : Value} {l : List Nat} (h : WR w0 w W0 u V n t l) : ∀ k, u.ownBlock = some k → t.ownBlock ≠ some k := by
  obtain ⟨b, _, _, hb⟩ := h.wat.row
  exact ownsRow_ne hb h.row (by decide)
theorem WR.written {w0 w w' : World} {W0 : Nat} {u u' : Value} {V n V' n' : Nat} {t : Value} {l : List Nat} (h : WR w0 w W0 u V n t l) (hA : WAt w' W0 0 u' V' n') (hS : WStep w w' W0 0 u u') : WR w0 w' W0 u' V' n' t l :=
  ⟨Below.trans h.ext (hS.below h.wn h.un h.ext.size), hA, ownsRow_kept h.row hS.keeps (fun k hk q => by
    rcases q with q | q
    · exact (h.tn k hk).2 q
    · exact h.apart k q hk), h.wn, hS.own h.un h.ext.size, h.tn⟩
theorem WR.drew {w0 w : World} {W0 : Nat} {u : Value} {V n : Nat} {t : Value} {l : List Nat} (h : WR w0 w W0 u V n t l) : WR w0 w.drew W0 u V n t l :=
  ⟨h.ext.drew, ⟨h.wat.c0, h.wat.c1, h.wat.f0, h.wat.f1, h.wat.row, h.wat.apart, h.wat.lt⟩, h.row, h.wn, h.un, h.tn⟩
theorem WR.pushed {w0 w w' : World} {W0 : Nat} {u : Value} {V n : Nat} {t t' : Value} {l : List Nat} {o : Obj} {k : Nat} (h : WR w0 w W0 u V n t l) (hgrow : (w.alloc o).grownBy w' t.ownBlock)
    (hown : w'.ownsRow 0 3 1 t' (l.length + 1) (symV l ++ [.int .i64 (k : Int)])) (hat : t'.ownBlock = t.ownBlock ∨ t'.ownBlock = some (w.heap.size + 1)) : WR w0 w' W0 u V n t' (l ++ [k]) := by
  have hk : Keeps (fun k => t.ownBlock = some k) w w' := Keeps.trans (Keeps.alloc (Keeps.refl (fun k => t.ownBlock = some k) w) o) (Keeps.grown hgrow) (fun _ _ q => q)
  have hW : W0 < w.heap.size := World.block_lt_of_cell? w _ h.wat.c0
  refine ⟨?_, wat_kept h.wat hk (fun q => (h.tn _ q).2 rfl) (fun k hk q => h.apart k hk q), ?_, h.wn, h.un, ?_⟩
  · exact Below.trans h.ext (hk.below h.ext.size (fun k hk q => by have := (h.tn k q).1; omega))
  · have e : symV (l ++ [k]) = symV l ++ [.int .i64 (k : Int)] := by simp [symV]
    rw [e, List.length_append]; exact hown
  · intro j hj
    rcases hat with q | q
    · rw [q] at hj; exact h.tn j hj
    · rw [q] at hj; injection hj with hj; have := h.ext.size; omega
theorem symV_ints (l : List Nat) : symV l = intsV l.length (fun i => ((l.getD i 0 : Nat) : Int)) := by
  apply List.ext_getElem?
  intro i
  rcases Nat.lt_or_ge i l.length with h | h
  · rw [intsV_get _ _ _ h]; simp [symV, h]
  · rw [List.getElem?_eq_none (by simpa [symV] using h), List.getElem?_eq_none (by simpa [intsV] using h)]
theorem told_ints {w : World} {b : Nat} {t : Value} {l : List Nat} (h : w.ownsRow b 3 1 t l.length (symV l)) (hl : ∀ k, k ∈ l → k ≤ 1000) : ∃ x c, t = .slice x l.length c ∧ Ints w x l.length (fun i => ((l.getD i 0 : Nat) : Int)) := by
  rw [symV_ints] at h
  exact Ints.of_own h (fun i hi => by
    have hm : l.getD i 0 ∈ l := by simp [List.getD, hi]
    have := hl _ hm; omega)
theorem take_split (l : List Nat) (j k : Nat) (h : l[j]? = some k) : l = l.take j ++ k :: l.drop (j + 1) ∧ l.take (j + 1) = l.take j ++ [k] := by
  have hj : j < l.length := by
    rcases Nat.lt_or_ge j l.length with q | q
    · exact q
    · rw [List.getElem?_eq_none q] at h; cases h
  rw [List.getElem?_eq_getElem hj] at h
  injection h with h
  refine ⟨?_, by rw [List.take_succ_eq_append_getElem hj, h]⟩
  rw [← h, List.getElem_cons_drop hj, List.take_append_drop]
end Go.Proofs.YtnhbjgmfbcedaaaDoor
namespace Go.Proofs.YtnhbjgmfbcedaaaDoor
open Go.RowKit
set_option linter.unusedSimpArgs false
set_option linter.unusedVariables false
def Bk (w : World) (b : Nat) (cs : Array Value) : Prop := ∃ t, w.heap[b]? = some (.cells cs t (0, 0))
theorem Bk.lt {w : World} {b : Nat} {cs : Array Value} (h : Bk w b cs) : b < w.heap.size := by obtain ⟨t, h⟩ := h; exact lt_of_block h
theorem Bk.at {w : World} {k : Nat} {cs : Array Value} {t : TypeId} (h : w.heap.size = k) : Bk (w.alloc (.cells cs t)) k cs := ⟨t, by rw [← h]; exact heap_alloc_new w _⟩
theorem Bk.old {w : World} {b : Nat} {cs : Array Value} {o : Obj} (h : Bk w b cs) : Bk (w.alloc o) b cs := by
  have hl := h.lt
  obtain ⟨t, h⟩ := h
  exact ⟨t, (Below.heap_alloc w o b hl).trans h⟩
theorem Bk.keeps {S : Nat → Prop} {w w' : World} {b : Nat} {cs : Array Value} (h : Bk w b cs) (hk : Keeps S w w') (hS : ¬ S b) : Bk w' b cs := by
  have hl := h.lt
  obtain ⟨t, h⟩ := h
  exact ⟨t, (hk.block b hl hS).trans h⟩
theorem Bk.ext {w w' : World} {b : Nat} {cs : Array Value} (h : Bk w b cs) (hE : Ext w w') : Bk w' b cs := h.keeps (S := fun _ => False) hE.keeps id
theorem Bk.cell {w : World} {b : Nat} {cs : Array Value} (h : Bk w b cs) (i : Nat) : w.cell? ⟨b, i, none⟩ = cs[i]? := by
  obtain ⟨t, h⟩ := h
  exact cell_of_row w b i cs t (0, 0) h
theorem Bk.frozen {w : World} {b : Nat} {cs : Array Value} (h : Bk w b cs) (i : Nat) : w.frozen? ⟨b, i, none⟩ = false := by
  obtain ⟨t, h⟩ := h
  simp [World.frozen?, h]
theorem Bk.set_ {w : World} {b : Nat} {cs : Array Value} (h : Bk w b cs) (i : Nat) (u : Value) : Bk (w.setCell ⟨b, i, none⟩ u) b (cs.setIfInBounds i u) := by
  obtain ⟨t, h⟩ := h
  exact ⟨t, by simp [World.setCell, Array.getElem?_modify, h]⟩
theorem Bk.far {w : World} {b : Nat} {cs : Array Value} (h : Bk w b cs) {p : Addr} (hp : b ≠ p.block) (u : Value) : Bk (w.setCell p u) b cs := by
  obtain ⟨t, h⟩ := h
  exact ⟨t, (Below.heap_setCell w p u b hp).trans h⟩
theorem Bk.drewN {w : World} {b : Nat} {cs : Array Value} (h : Bk w b cs) (n : Nat) : Bk (w.drewN n) b cs := h
theorem Bk.drew {w : World} {b : Nat} {cs : Array Value} (h : Bk w b cs) : Bk w.drew b cs := h
end Go.Proofs.YtnhbjgmfbcedaaaDoor
namespace Go.Proofs.YtnhbjgmfbcedaaaDoor
open Go.RowKit
set_option linter.unusedSimpArgs false
set_option linter.unusedVariables false
structure Tk where
  b : UInt8
  l : Int
  d : Int
structure Tk.Ok (t : Tk) : Prop where
  l : -9223372036854775808 ≤ t.l ∧ t.l ≤ 9223372036854775807
  d : -9223372036854775808 ≤ t.d ∧ t.d ≤ 9223372036854775807
/-- a row of tokens, wherever it lies -/
def Toks (w : World) (x : Option Addr) (n : Nat) (tk : Nat → Tk) : Prop :=
  (x = none → n = 0) ∧ ∀ a, x = some a → ∀ i, i < n →
    w.cell? (a.add (i * 3)) = some (.int .u8 ((tk i).b.toNat : Int)) ∧ w.cell? ⟨(a.add (i * 3)).block, (a.add (i * 3)).off + 1, none⟩ = some (.int .i64 (tk i).l) ∧
    w.cell? ⟨(a.add (i * 3)).block, (a.add (i * 3)).off + 2, none⟩ = some (.int .i64 (tk i).d) ∧ (tk i).Ok
theorem add_block3 (a : Addr) (k : Nat) : (a.add k).block = a.block := by unfold Addr.add; split <;> rfl
theorem Toks.keeps {S : Nat → Prop} {w w' : World} {x : Option Addr} {n : Nat} {tk : Nat → Tk} (h : Toks w x n tk) (hk : Keeps S w w') (hS : ∀ a, x = some a → ¬ S a.block) : Toks w' x n tk := by
  refine ⟨h.1, fun a ha i hi => ?_⟩
  obtain ⟨c0, c1, c2, ok⟩ := h.2 a ha i hi
  have hs : ¬ S (a.add (i * 3)).block := by rw [add_block3]; exact hS a ha
  have hl : (a.add (i * 3)).block < w.heap.size := World.block_lt_of_cell? w _ c0
  exact ⟨(hk.cell hl hs).trans c0, (hk.cell (p := ⟨_, _, none⟩) hl hs).trans c1, (hk.cell (p := ⟨_, _, none⟩) hl hs).trans c2, ok⟩
theorem Toks.ext {w w' : World} {x : Option Addr} {n : Nat} {tk : Nat → Tk} (h : Toks w x n tk) (hE : Ext w w') : Toks w' x n tk := h.keeps (S := fun _ => False) hE.keeps (fun _ _ => id)
theorem Toks.isSome {w : World} {x : Option Addr} {n : Nat} {tk : Nat → Tk} (h : Toks w x n tk) {i : Nat} (hi : i < n) : ∃ a, x = some a := by
  cases x with
  | none => have := h.1 rfl; omega
  | some a => exact ⟨a, rfl⟩
/-- the text behind k bytes more, each one from d back -/
def copyL (out : List UInt8) (d : Nat) : Nat → List UInt8
  | 0 => out
  | k + 1 => copyL out d k ++ [(copyL out d k).getD ((copyL out d k).length - d) 0]
theorem copyL_length (out : List UInt8) (d : Nat) : ∀ k, (copyL out d k).length = out.length + k := by
  intro k
  induction k with
  | zero => rfl
  | succ k ih => simp only [copyL, List.length_append, ih]; simp; omega
/-- what tokens mean: a text, or an error's number and place -/
inductive XRes where
  | ok (out : List UInt8)
  | bad (c i : Nat)
def litP (t : Tk) : Prop := t.l = 0 ∧ t.d = 0
def badP (t : Tk) (n : Nat) : Prop := t.b ≠ 0 ∨ t.l < 3 ∨ 258 < t.l ∨ t.d < 1 ∨ 32768 < t.d ∨ (n : Int) < t.d
instance (t : Tk) : Decidable (litP t) := by unfold litP; infer_instance
instance (t : Tk) (n : Nat) : Decidable (badP t n) := by unfold badP; infer_instance
def stepX (t : Tk) (k : Nat) (out : List UInt8) : XRes :=
  if litP t then (if 300000 < out.length + 1 then .bad 1 k else .ok (out ++ [t.b]))
  else if badP t out.length then .bad 2 k
  else if 300000 < out.length + t.l.toNat then .bad 1 k else .ok (copyL out t.d.toNat t.l.toNat)
def expL (tk : Nat → Tk) : Nat → XRes
  | 0 => .ok []
  | k + 1 => match expL tk k with
    | .ok out => stepX (tk k) k out
    | .bad c i => .bad c i
theorem expL_succ {tk : Nat → Tk} {k : Nat} {out : List UInt8} (h : expL tk k = .ok out) : expL tk (k + 1) = stepX (tk k) k out := by
  simp only [expL, h]
theorem expL_more {tk : Nat → Tk} {k c i : Nat} (h : expL tk k = .bad c i) : ∀ d, expL tk (k + d) = .bad c i := by
  intro d
  induction d with
  | zero => exact h
  | succ d ih => show expL tk (k + d + 1) = _; simp only [expL, ih]
theorem expL_bad {tk : Nat → Tk} {n k c : Nat} {out : List UInt8} (h : expL tk k = .ok out) (hs : stepX (tk k) k out = .bad c k) (hk : k < n) : expL tk n = .bad c k := by
  have h1 : expL tk (k + 1) = .bad c k := (expL_succ h).trans hs
  have := expL_more h1 (n - (k + 1))
  rwa [show k + 1 + (n - (k + 1)) = n by omega] at this
theorem stepX_lit {t : Tk} {k : Nat} {out : List UInt8} (h : litP t) (hb : out.length + 1 ≤ 300000) : stepX t k out = .ok (out ++ [t.b]) := by
  unfold stepX; rw [if_pos h, if_neg (by omega)]
theorem stepX_lit_no {t : Tk} {k : Nat} {out : List UInt8} (h : litP t) (hb : 300000 < out.length + 1) : stepX t k out = .bad 1 k := by
  unfold stepX; rw [if_pos h, if_pos hb]
theorem stepX_bad {t : Tk} {k : Nat} {out : List UInt8} (h : ¬ litP t) (hb : badP t out.length) : stepX t k out = .bad 2 k := by
  unfold stepX; rw [if_neg h, if_pos hb]
theorem stepX_copy {t : Tk} {k l d : Nat} {out : List UInt8} (h : ¬ litP t) (h2 : ¬ badP t out.length) (hl : t.l = l) (hd : t.d = d) (hb : out.length + l ≤ 300000) : stepX t k out = .ok (copyL out d l) := by
  unfold stepX; rw [if_neg h, if_neg h2, hl, hd, Int.toNat_natCast, Int.toNat_natCast, if_neg (by omega)]
theorem stepX_copy_no {t : Tk} {k l : Nat} {out : List UInt8} (h : ¬ litP t) (h2 : ¬ badP t out.length) (hl : t.l = l) (hb : 300000 < out.length + l) : stepX t k out = .bad 1 k := by
  unfold stepX; rw [if_neg h, if_neg h2, hl, Int.toNat_natCast, if_pos hb]
theorem stepX_len {t : Tk} {k : Nat} {out o : List UInt8} (h : stepX t k out = .ok o) : o.length ≤ 300000 := by
  unfold stepX at h
  split at h
  · split at h
    · cases h
    · injection h with h; subst h; simp; omega
  · split at h
    · cases h
    · split at h
      · cases h
      · injection h with h; subst h; rw [copyL_length]; omega
theorem expL_len {tk : Nat → Tk} : ∀ {n : Nat} {out : List UInt8}, expL tk n = .ok out → out.length ≤ 300000 := by
  intro n
  induction n with
  | zero => intro out h; injection h with h; subst h; simp
  | succ n ih =>
    intro out h
    simp only [expL] at h
    split at h
    · exact stepX_len h
    · cases h
/-- a row of bytes that grew by one -/
theorem row_push {w0 wr w1 : World} {v v' : Value} {l : List UInt8} {b : UInt8} (hE : Ext w0 wr) (hR : wr.ownsRow w0.heap.size 5 1 v l.length (bytesV l)) (hg : wr.grownBy w1 v.ownBlock)
    (ho : w1.ownsRow w0.heap.size 5 1 v' (l.length + 1) (bytesV l ++ [.int .u8 (b.toNat : Int)])) : w1.ownsRow w0.heap.size 5 1 v' (l ++ [b]).length (bytesV (l ++ [b])) ∧ Ext w0 w1 := by
  refine ⟨?_, Below.trans hE ((Keeps.grown hg).below hE.size (fun k hk e => by have := (hR.lt k e).1; omega))⟩
  have e : bytesV (l ++ [b]) = bytesV l ++ [.int .u8 (b.toNat : Int)] := by simp [bytesV]
  rw [e, List.length_append]
  exact ho
theorem row_conv {w : World} {base : Nat} {v : Value} {l : List UInt8} (h : w.ownsRow base 5 1 v l.length (bytesV l)) : (convert 61 9 v).run Tryd.prog w = .ok (.string ⟨l.toArray⟩) w := by
  rcases ownsRow_slice h with ⟨rfl, h0⟩ | ⟨g, cap, rfl⟩
  · rw [run_convert_bytes_string w 61 9 5 none 0 0 Tryd.underlying61 Tryd.underlying5 Tryd.underlying9, List.eq_nil_of_length_eq_zero h0]; rfl
  · refine run_convert_bytes_back (P := Tryd.prog) w 61 9 5 ⟨g, 0, none⟩ cap l Tryd.underlying61 Tryd.underlying5 Tryd.underlying9 (fun j hj => ?_)
    rw [add_plain, h.cellAt j (by omega), bytesV_get _ j hj]
theorem byteinf : (Tryd.prog.info? 5).map (fun i => (i.zero, i.size, i.bytes)) = some (some (.int .u8 0), 1, 1) := by kernel_rfl
end Go.Proofs.YtnhbjgmfbcedaaaDoor
namespace Go.Proofs.YtnhbjgmfbcedaaaDoor
open Go.RowKit
set_option linter.unusedSimpArgs false
set_option linter.unusedVariables false
namespace Inf
/-- a text of bytes: its number, and how many bits it has -/
def get (L : List UInt8) (k a : Nat) : Except Nat (Nat × Nat) := if a + k ≤ 8 * L.length then .ok (Crc.num L / 2 ^ a % 2 ^ k, a + k) else .error 0
/-- where a word of a code stands: its length and its symbol -/
def Hit (L : List UInt8) (f : Nat → Int) (len a n k : Nat) : Prop := 1 ≤ n ∧ n ≤ 15 ∧ a + n ≤ 8 * L.length ∧ k < len ∧ f k = (n : Int) ∧ word f len k = codeAt (Crc.num L) a n
theorem Hit.nohit {L : List UInt8} {f : Nat → Int} {len a n k : Nat} (h : Hit L f len a n k) : NoHit f len (Crc.num L) a (n - 1) := nohit_word h.2.2.2.2.1 h.1 h.2.2.2.2.2.symm
theorem Hit.lt {L : List UInt8} {f : Nat → Int} {len a n k : Nat} (h : Hit L f len a n k) (hc : complete f len) : codeAt (Crc.num L) a n < first f len n + many f n len := by
  rw [← h.2.2.2.2.2]; exact (word_lt2 f len k n hc h.2.2.2.1 h.2.2.2.2.1 h.1 h.2.1).1
theorem Hit.uniq {L : List UInt8} {f : Nat → Int} {len a n k n' k' : Nat} (hc : complete f len) (h : Hit L f len a n k) (h' : Hit L f len a n' k') : n = n' ∧ k = k' := by
  have hn : n = n' := by
    rcases Nat.lt_trichotomy n n' with q | q | q
    · have := h'.nohit n h.1 (by omega); have := h.lt hc; omega
    · exact q
    · have := h.nohit n' h'.1 (by omega); have := h'.lt hc; omega
  subst hn
  refine ⟨rfl, ?_⟩
  rcases Nat.decEq k k' with q | q
  · have h1 := h.2.2.2.2.1
    have h2 := h'.2.2.2.2.1
    have := apart f len k k' h.2.2.2.1 q (by have := h.1; omega) (by omega)
    rw [h1, h2, Int.sub_self, Int.toNat_zero, Nat.pow_zero, Nat.div_one] at this
    exact absurd (h'.2.2.2.2.2.trans h.2.2.2.2.2.symm) this
  · exact q
noncomputable def nxt (L : List UInt8) (f : Nat → Int) (len a : Nat) : Except Nat (Nat × Nat) :=
  open Classical in if h : ∃ p : Nat × Nat, Hit L f len a p.1 p.2 then .ok (h.choose.2, a + h.choose.1) else .error 0
theorem nxt_hit {L : List UInt8} {f : Nat → Int} {len a n k : Nat} (hc : complete f len) (h : Hit L f len a n k) : nxt L f len a = .ok (k, a + n) := by
  have hx : ∃ p : Nat × Nat, Hit L f len a p.1 p.2 := ⟨(n, k), h⟩
  unfold nxt
  rw [dif_pos hx]
  obtain ⟨e1, e2⟩ := Hit.uniq hc h hx.choose_spec
  rw [← e1, ← e2]
theorem nxt_none {L : List UInt8} {f : Nat → Int} {len a : Nat} (h : ∀ n k, ¬ Hit L f len a n k) : nxt L f len a = .error 0 := by
  unfold nxt; rw [dif_neg]; rintro ⟨p, hp⟩; exact h _ _ hp
theorem nxt_ok {L : List UInt8} {f : Nat → Int} {len a a' k : Nat} (h : nxt L f len a = .ok (k, a')) : ∃ n, a' = a + n ∧ Hit L f len a n k := by
  unfold nxt at h
  split at h
  · rename_i hx
    injection h with h; injection h with h1 h2
    subst h1 h2
    exact ⟨_, rfl, hx.choose_spec⟩
  · cases h
theorem nxt_error {L : List UInt8} {f : Nat → Int} {len a c : Nat} (h : nxt L f len a = .error c) : c = 0 := by
  unfold nxt at h
  split at h
  · cases h
  · injection h with h; exact h.symm
theorem get_ok {L : List UInt8} {k a n a' : Nat} (h : get L k a = .ok (n, a')) : a' = a + k ∧ a + k ≤ 8 * L.length ∧ n < 2 ^ k ∧ n = Crc.num L / 2 ^ a % 2 ^ k := by
  unfold get at h
  split at h
  · injection h with h; injection h with h1 h2
    subst h1 h2
    exact ⟨rfl, by assumption, Nat.mod_lt _ (Nat.two_pow_pos _), rfl⟩
  · cases h
theorem get_error {L : List UInt8} {k a c : Nat} (h : get L k a = .error c) : c = 0 ∧ 8 * L.length < a + k := by
  unfold get at h
  split at h
  · cases h
  · injection h with h; exact ⟨h.symm, by omega⟩
/-- rows of lengths, and of distances; how many bits more -/
def lensL : List Nat := [3, 4, 5, 6, 7, 8, 9, 10, 11, 13, 15, 17, 19, 23, 27, 31, 35, 43, 51, 59, 67, 83, 99, 115, 131, 163, 195, 227, 258]
def distsL : List Nat := [1, 2, 3, 4, 5, 7, 9, 13, 17, 25, 33, 49, 65, 97, 129, 193, 257, 385, 513, 769, 1025, 1537, 2049, 3073, 4097, 6145, 8193, 12289, 16385, 24577]
def lensB : List Nat := [0, 0, 0, 0, 0, 0, 0, 0, 1, 1, 1, 1, 2, 2, 2, 2, 3, 3, 3, 3, 4, 4, 4, 4, 5, 5, 5, 5, 0]
def distsB : List Nat := [0, 0, 0, 0, 1, 1, 2, 2, 3, 3, 4, 4, 5, 5, 6, 6, 7, 7, 8, 8, 9, 9, 10, 10, 11, 11, 12, 12, 13, 13]
def orderL : List Nat := [16, 17, 18, 0, 8, 7, 9, 6, 10, 5, 11, 4, 12, 3, 13, 2, 14, 1, 15]
/-- what a word of a block was: a symbol; of a match its distance's symbol, its length, how far back -/
structure Ev where
  k : Nat
  d : Nat
  n : Nat
  back : Nat
abbrev TRes := Except Nat (Nat × List UInt8 × List Ev)
/-- a match: behind its symbol -/
def far (L : List UInt8) (most k d a : Nat) (out : List UInt8) (x : Nat) : Except Nat (Nat × List UInt8 × Ev) :=
  if 30 ≤ d then .error 0 else
  match get L (distsB.getD d 0) a with
  | .error c => .error c
  | .ok (y, a') =>
    if out.length < distsL.getD d 0 + y then .error 0
    else if most < out.length + (lensL.getD (k - 257) 0 + x) then .error 1
    else .ok (a', copyL out (distsL.getD d 0 + y) (lensL.getD (k - 257) 0 + x), ⟨k, d, lensL.getD (k - 257) 0 + x, distsL.getD d 0 + y⟩)
noncomputable def tok (L : List UInt8) (most : Nat) (g : Nat → Int) (gen k a : Nat) (out : List UInt8) : Except Nat (Nat × List UInt8 × Ev) :=
  if k < 256 then if out.length < most then .ok (a, out ++ [UInt8.ofNat k], ⟨k, 0, 0, 0⟩) else .error 1
  else if 286 ≤ k then .error 0 else
  match get L (lensB.getD (k - 257) 0) a with
  | .error c => .error c
  | .ok (x, a2) =>
    match nxt L g gen a2 with
    | .error c => .error c
    | .ok (d, a3) => far L most k d a3 out x
noncomputable def toks (L : List UInt8) (most : Nat) (f : Nat → Int) (len : Nat) (g : Nat → Int) (gen : Nat) : Nat → Nat → List UInt8 → List Ev → TRes
  | 0, _, _, _ => .error 0
  | F + 1, a, out, tr =>
    match nxt L f len a with
    | .error c => .error c
    | .ok (k, a1) =>
      if k = 256 then .ok (a1, out, tr ++ [⟨256, 0, 0, 0⟩]) else
      match tok L most g gen k a1 out with
      | .error c => .error c
      | .ok (a2, out2, e) => toks L most f len g gen F a2 out2 (tr ++ [e])
def stored (L : List UInt8) (most a : Nat) (out : List UInt8) : Except Nat (Nat × List UInt8) :=
  match get L 16 ((a + 7) / 8 * 8) with
  | .error c => .error c
  | .ok (n, a2) =>
    match get L 16 a2 with
    | .error c => .error c
    | .ok (m, a3) =>
      if n + m ≠ 65535 then .error 0
      else if 8 * L.length < a3 + 8 * n then .error 0
      else if most < out.length + n then .error 1
      else .ok (a3 + 8 * n, out ++ (L.drop (a3 / 8)).take n)
def upd (f : Nat → Int) (i : Nat) (x : Int) : Nat → Int := fun j => if j = i then x else f j
def smalls (L : List UInt8) : Nat → Nat → Nat → (Nat → Int) → Except Nat ((Nat → Int) × Nat)
  | 0, _, a, f => .ok (f, a)
  | r + 1, i, a, f =>
    match get L 3 a with
    | .error c => .error c
    | .ok (x, a') => smalls L r (i + 1) a' (upd f (orderL.getD i 0) x)
/-- how often, and what: behind a symbol of lengths -/
def rep (L : List UInt8) (k a : Nat) (l : List Nat) : Except Nat (Nat × Nat × Nat) :=
  if k = 16 then if l = [] then .error 0 else
    match get L 2 a with
    | .error c => .error c
    | .ok (x, a') => .ok (3 + x, l.getD (l.length - 1) 0, a')
  else if k = 17 then
    match get L 3 a with
    | .error c => .error c
    | .ok (x, a') => .ok (3 + x, 0, a')
  else if k = 18 then
    match get L 7 a with
    | .error c => .error c
    | .ok (x, a') => .ok (11 + x, 0, a')
  else .ok (1, k, a)
noncomputable def lens (L : List UInt8) (f : Nat → Int) (want : Nat) : Nat → Nat → List Nat → Except Nat (List Nat × Nat)
  | 0, _, _ => .error 0
  | F + 1, a, l =>
    if want ≤ l.length then .ok (l, a) else
    match nxt L f 19 a with
    | .error c => .error c
    | .ok (k, a1) =>
      match rep L k a1 l with
      | .error c => .error c
      | .ok (t, what, a2) => if want < l.length + t then .error 0 else lens L f want F a2 (l ++ List.replicate t what)
def fn (l : List Nat) : Nat → Int := fun i => ((l.getD i 0 : Nat) : Int)
def good (f : Nat → Int) (len : Nat) : Prop := inBounds f len ∧ complete f len
/-- a dynamic block's two rows of lengths -/
noncomputable def dyn (L : List UInt8) (a : Nat) : Except Nat (List Nat × List Nat × Nat) :=
  match get L 5 a with
  | .error c => .error c
  | .ok (m, a1) =>
    match get L 5 a1 with
    | .error c => .error c
    | .ok (r, a2) =>
      match get L 4 a2 with
      | .error c => .error c
      | .ok (w, a3) =>
        if 286 < m + 257 ∨ 30 < r + 1 then .error 0 else
        match smalls L (w + 4) 0 a3 (fun _ => 0) with
        | .error c => .error c
        | .ok (f, a4) =>
          open Classical in if ¬ good f 19 then .error 0 else
          match lens L f (m + 257 + (r + 1)) (m + 257 + (r + 1) + 1) a4 [] with
          | .error c => .error c
          | .ok (l, a5) =>
            if ¬ good (fn (l.take (m + 257))) (m + 257) then .error 0
            else if ¬ good (fn (l.drop (m + 257))) (r + 1) then .error 0
            else if l.getD 256 0 = 0 then .error 0
            else .ok (l.take (m + 257), l.drop (m + 257), a5)
def fixF : Nat → Int := fun i => if i < 144 then 8 else if i < 256 then 9 else if i < 280 then 7 else 8
def fiveF : Nat → Int := fun _ => 5
/-- a block as it was read: its kind, its rows of lengths, its words -/
structure Blk where
  kind : Nat
  f : List Nat
  g : List Nat
  tr : List Ev
noncomputable def block (L : List UInt8) (most a : Nat) (out : List UInt8) : Except Nat (Nat × Nat × List UInt8 × Blk) :=
  match get L 1 a with
  | .error c => .error c
  | .ok (last, a1) =>
    match get L 2 a1 with
    | .error c => .error c
    | .ok (kind, a2) =>
      if kind = 0 then
        match stored L most a2 out with
        | .error c => .error c
        | .ok (a3, out3) => .ok (last, a3, out3, ⟨0, [], [], []⟩)
      else if kind = 1 then
        match toks L most fixF 288 fiveF 32 (8 * L.length + 1) a2 out [] with
        | .error c => .error c
        | .ok (a3, out3, tr) => .ok (last, a3, out3, ⟨1, [], [], tr⟩)
      else if kind = 2 then
        match dyn L a2 with
        | .error c => .error c
        | .ok (l, r, a3) =>
          match toks L most (fn l) l.length (fn r) r.length (8 * L.length + 1) a3 out [] with
          | .error c => .error c
          | .ok (a4, out4, tr) => .ok (last, a4, out4, ⟨2, l, r, tr⟩)
      else .error 0
noncomputable def blocks (L : List UInt8) (most : Nat) : Nat → Nat → List UInt8 → List Blk → Except Nat (Nat × List UInt8 × List Blk)
  | 0, _, _, _ => .error 0
  | F + 1, a, out, bs =>
    match block L most a out with
    | .error c => .error c
    | .ok (last, a1, out1, b) => if last = 1 then .ok (a1, out1, bs ++ [b]) else blocks L most F a1 out1 (bs ++ [b])
noncomputable def inf (L : List UInt8) (most : Nat) : Except Nat (List UInt8 × Nat × List Blk) :=
  match blocks L most (8 * L.length + 1) 0 [] [] with
  | .error c => .error c
  | .ok (a, out, bs) => .ok (out, (a + 7) / 8, bs)
end Inf
end Go.Proofs.YtnhbjgmfbcedaaaDoor
namespace Go.Proofs.YtnhbjgmfbcedaaaDoor
open Go.RowKit
set_option linter.unusedSimpArgs false
set_option linter.unusedVariables false
set_option maxRecDepth 100000
/-- of lengths that are not right: the error's number -/
theorem valid_no (x : Option Addr) (len cap : Nat) (f : Nat → Int) (w : World) (E : Nat → Addr) (hE : Errs w E) (hx : Ints w x len f) (hl : len ≤ maxLen) (h : ¬ (inBounds f len ∧ complete f len)) :
    Calls Tryd.prog 118 #[.slice x len cap] w fun e w' => (∃ k, k < 9 ∧ e = .returned (.iface 210 (.pointer (some (E k)))) ∧ vcode f len = (k : Int) + 1) ∧ Ext w w' := by
  refine (valid_calls x len cap f w hx hl _ _ (hE.var 1 (by decide)) (hE.var 2 (by decide))).mono ?_
  rintro e w2 ⟨h2, q | q | q⟩
  · exact absurd q.2 h
  · exact ⟨⟨1, by decide, q.1, by unfold vcode; rw [if_neg q.2]; rfl⟩, h2⟩
  · exact ⟨⟨2, by decide, q.1, by unfold vcode; rw [if_pos q.2.1, if_neg q.2.2]; rfl⟩, h2⟩
theorem read_no (x : Option Addr) (len cap : Nat) (f : Nat → Int) (w : World) (E : Nat → Addr) (hE : Errs w E) (hx : Ints w x len f) (hl : len ≤ maxLen) (h : ¬ (inBounds f len ∧ complete f len)) :
    Calls Tryd.prog 108 #[.slice x len cap] w fun e w' => (∃ k, k < 9 ∧ e = .returned (.tuple #[.pointer none, .iface 210 (.pointer (some (E k)))]) ∧ vcode f len = (k : Int) + 1) ∧ Ext w w' := by
  have HE := Lib.hid hE
  have HX := Lib.hid hx
  have HH := Lib.hid h
  clear hE hx h
  go_enter Tryd.func108, Tryd.ntmps108
  go_wp2_with fail
  refine (valid_no x len cap f w E HE.out HX.out hl HH.out).mono ?_
  rintro e w2 ⟨⟨k, hk, rfl, hv⟩, h2⟩
  have X2 := Lib.hid (h2)
  have HV := Lib.hid (hv)
  clear h2 hv
  go_wp2_with fail
  first | go_ret2 | (go_region; all_goals go_wp2_with fail; all_goals go_ret2)
  all_goals exact ⟨⟨k, hk, rfl, HV.out⟩, by first | exact X2.out | exact X2.out.drewN _ | exact X2.out.drew⟩
theorem codes_no (x : Option Addr) (len cap : Nat) (f : Nat → Int) (w : World) (E : Nat → Addr) (hE : Errs w E) (hx : Ints w x len f) (hl : len ≤ maxLen) (h : ¬ (inBounds f len ∧ complete f len)) :
    Calls Tryd.prog 91 #[.slice x len cap] w fun e w' => (∃ k, k < 9 ∧ e = .returned (.tuple #[.slice none 0 0, .iface 210 (.pointer (some (E k)))]) ∧ vcode f len = (k : Int) + 1) ∧ Ext w w' := by
  refine (codes_bad x len cap f w hx hl _ _ (hE.var 1 (by decide)) (hE.var 2 (by decide)) h).mono ?_
  rintro e w2 ⟨h2, q | q⟩
  · exact ⟨⟨1, by decide, q.1, by unfold vcode; rw [if_neg q.2]; rfl⟩, h2⟩
  · exact ⟨⟨2, by decide, q.1, by unfold vcode; rw [if_pos q.2, if_neg (fun h' => h ⟨q.2, h'⟩)]; rfl⟩, h2⟩
end Go.Proofs.YtnhbjgmfbcedaaaDoor
namespace Go.Proofs.YtnhbjgmfbcedaaaDoor
open Go.RowKit
set_option linter.unusedSimpArgs false
set_option linter.unusedVariables false
set_option maxRecDepth 100000
theorem ralign_calls (B o a : Nat) (s : ByteArray) (w : World) (hR : RAt w B o s a) (ha : a ≤ 8 * s.size) :
    Calls Tryd.prog 38 #[.pointer (some ⟨B, o, none⟩)] w fun e w' => e = .returned (.tuple #[]) ∧ RAt w' B o s ((a + 7) / 8 * 8) ∧ RStep w w' B o := by
  have P := hR.put ((a + 7) / 8 * 8) (by omega)
  obtain ⟨c0, c1, f1, hs, hle⟩ := hR
  have e8 : ((a : Int) + 7) / 8 * 8 = (((a + 7) / 8 * 8 : Nat) : Int) := by omega
  rw [← e8] at P
  have HP := Lib.hid P
  have H8 := Lib.hid e8
  clear P e8
  go_enter Tryd.func38, Tryd.ntmps38
  go_wp2
  go_end0
  exact ⟨rfl, HP.out⟩
end Go.Proofs.YtnhbjgmfbcedaaaDoor
namespace Go.Proofs.YtnhbjgmfbcedaaaDoor
open Go.RowKit
set_option linter.unusedSimpArgs false
set_option linter.unusedVariables false
set_option maxRecDepth 100000
theorem rbytes_no (B o a k : Nat) (s : ByteArray) (w : World) (hR : RAt w B o s a) (ha : a ≤ 8 * s.size) (hk : k ≤ 100000000) (h : 8 * s.size < (a + 7) / 8 * 8 + 8 * k) :
    Calls Tryd.prog 107 #[.pointer (some ⟨B, o, none⟩), .int .i64 (k : Int)] w fun e w' => e = .returned (.tuple #[.string ⟨#[]⟩, .bool false]) ∧ RAt w' B o s ((a + 7) / 8 * 8) ∧ RStep w w' B o := by
  have HA := Lib.hid (ralign_calls B o a s w hR ha)
  have hsz := hR.size
  clear hR
  obtain ⟨a', ha'⟩ : ∃ x, (a + 7) / 8 * 8 = x := ⟨_, rfl⟩
  rw [ha'] at h HA ⊢
  have hlt : 8 * (s.size : Int) - (a' : Int) < 8 * (k : Int) := by omega
  have wk : ∀ z, z = 8 * (k : Int) → IntKind.i64.wrap z = z := by rintro _ rfl; rw [IntKind.wrap_i64]; omega
  clear h ha'
  go_enter Tryd.func107, Tryd.ntmps107
  go_wp2_with fail
  refine HA.out.mono ?_
  rintro e w1 ⟨rfl, hR, hS⟩
  have R1 := Lib.hid hR
  have S1 := Lib.hid hS
  clear hR hS HA
  go_wp2_with fail
  refine (left_calls B o a' s w1 R1.out).mono ?_
  rintro e w2 ⟨rfl, m, rfl⟩
  go_wp2_with fail
  go_ret2
  exact ⟨rfl, R1.out.drewN m, S1.out.drewN m⟩
set_option linter.unusedSimpArgs false in
theorem rbytes_yes (B o a k : Nat) (s : ByteArray) (w : World) (hR : RAt w B o s a) (ha : a ≤ 8 * s.size) (h : (a + 7) / 8 * 8 + 8 * k ≤ 8 * s.size) :
    Calls Tryd.prog 107 #[.pointer (some ⟨B, o, none⟩), .int .i64 (k : Int)] w fun e w' => e = .returned (.tuple #[.string (s.extract ((a + 7) / 8) ((a + 7) / 8 + k)), .bool true]) ∧ RAt w' B o s ((a + 7) / 8 * 8 + 8 * k) ∧ RStep w w' B o := by
  have HA := Lib.hid (ralign_calls B o a s w hR ha)
  have hsz := hR.size
  clear hR
  obtain ⟨q, hq⟩ : ∃ x, (a + 7) / 8 = x := ⟨_, rfl⟩
  rw [hq] at h HA ⊢
  obtain ⟨a', ha'⟩ : ∃ x, q * 8 = x := ⟨_, rfl⟩
  rw [ha'] at h HA ⊢
  obtain ⟨q2, hq2⟩ : ∃ x, q + k = x := ⟨_, rfl⟩
  obtain ⟨a2, ha2⟩ : ∃ x, a' + 8 * k = x := ⟨_, rfl⟩
  rw [hq2]
  rw [ha2] at h ⊢
  have hlt : ¬ 8 * (s.size : Int) - (a' : Int) < 8 * (k : Int) := by omega
  have e1 : (a' : Int) / 8 = (q : Int) := by omega
  have e2 : (q : Int) + (k : Int) = (q2 : Int) := by omega
  have e3 : (a' : Int) + 8 * (k : Int) = (a2 : Int) := by omega
  have e4 : q ≤ q2 ∧ q2 ≤ s.size := by omega
  have e5 := e4.1
  have e6 := e4.2
  have wk : ∀ z, z = 8 * (k : Int) → IntKind.i64.wrap z = z := by rintro _ rfl; rw [IntKind.wrap_i64]; omega
  have wq2 : ∀ z, z = (q2 : Int) → IntKind.i64.wrap z = z := by rintro _ rfl; rw [IntKind.wrap_i64]; omega
  have wq1 : ∀ z, z = (q : Int) → IntKind.i64.wrap z = z := by rintro _ rfl; rw [IntKind.wrap_i64]; omega
  have e7 : ((q : Nat) : Int).toNat = q := by omega
  have e8 : ((q2 : Nat) : Int).toNat = q2 := by omega
  have wa2 : ∀ z, z = (a2 : Int) → IntKind.i64.wrap z = z := by rintro _ rfl; rw [IntKind.wrap_i64]; omega
  have H2 := Lib.hid h
  clear h hq ha' hq2 ha2 e4
  go_enter Tryd.func107, Tryd.ntmps107
  go_wp2_with fail
  refine HA.out.mono ?_
  rintro e w1 ⟨rfl, hR, hS⟩
  have R1 := Lib.hid hR
  have S1 := Lib.hid hS
  clear hR hS HA
  go_wp2_with fail
  refine (left_calls B o a' s w1 R1.out).mono ?_
  rintro e w2 ⟨rfl, m, rfl⟩
  have R2 := Lib.hid (R1.out.drewN m)
  have S2 := Lib.hid (S1.out.drewN m)
  go_upto_region 4 with fail
  refine wp_world (fun wz => Hid (RAt wz B o s a') ∧ Hid (RStep w wz B o)) ⟨R2, S2⟩ ?_
  clear R1 S1 R2 S2 hlt
  rintro w3 ⟨R3, S3⟩
  have c0 := R3.out.c0
  have c1 := R3.out.c1
  have f1 := R3.out.f1
  have P := Lib.hid (R3.out.put a2 (by have := H2.out; omega))
  refine wp_region_still_tail 17 (by kernel_rfl) (by kernel_rfl) ?_
  simp only [List.take_succ_cons, List.take_zero, List.drop_succ_cons, List.drop_zero]
  repeat still_step
  refine wpStill_nil ?_
  change wpList _ _ _ _ _ w3.drew
  go_wp2_with fail
  go_ret2
  exact ⟨rfl, P.out.1.drewN 1, S3.out.trans (P.out.2.drewN 1)⟩
end Go.Proofs.YtnhbjgmfbcedaaaDoor
namespace Go.Proofs.YtnhbjgmfbcedaaaDoor
open Go.RowKit
set_option linter.unusedSimpArgs false
set_option linter.unusedVariables false
set_option maxRecDepth 100000
@[irreducible] def tb (l : List UInt8) : ByteArray := ⟨l.toArray⟩
theorem tb_eq (l : List UInt8) : tb l = ⟨l.toArray⟩ := by unfold tb; rfl
theorem tb_list (l : List UInt8) : (tb l).data.toList = l := by unfold tb; rfl
theorem tb_size (l : List UInt8) : (tb l).size = l.length := by rw [tb_eq]; rfl
theorem bts_ext {a b : ByteArray} (h : a.data.toList = b.data.toList) : a = b := by
  obtain ⟨⟨a⟩⟩ := a; obtain ⟨⟨b⟩⟩ := b; simp at h; rw [h]
theorem bts_cat (a b : ByteArray) : (a ++ b).data.toList = a.data.toList ++ b.data.toList := by simp
theorem tb_nil : (⟨#[]⟩ : ByteArray) = tb [] := bts_ext (by rw [tb_list])
theorem list_size (s : ByteArray) : s.data.toList.length = s.size := by rw [Array.length_toList]; rfl
theorem ex_list (s : ByteArray) (a b : Nat) : (s.extract a b).data.toList = (s.data.toList.drop a).take (b - a) := by
  rw [ByteArray.data_extract, Array.toList_extract, List.extract_eq_take_drop]
/-- the blocks -/
def chB (s : ByteArray) (i : Nat) : ByteArray := s.extract (i * 255) ((i + 1) * 255)
def blkL (s : ByteArray) : Nat → List UInt8
  | 0 => []
  | i + 1 => blkL s i ++ (UInt8.ofNat (chB s i).size :: (chB s i).data.toList)
def nch (s : ByteArray) : Nat := (s.size + 254) / 255
theorem nch_iff (s : ByteArray) (i : Nat) : i < nch s ↔ i * 255 < s.size := by unfold nch; omega
theorem nch_eq {s : ByteArray} {i : Nat} (h1 : s.size ≤ i * 255) (h2 : i ≤ nch s) : i = nch s := by unfold nch at *; omega
theorem chB_size (s : ByteArray) (i : Nat) : (chB s i).size = min 255 (s.size - i * 255) := by
  unfold chB; rw [ByteArray.size_extract]; omega
theorem blkL_length (s : ByteArray) : ∀ i, (blkL s i).length ≤ i * 256 := by
  intro i
  induction i with
  | zero => simp [blkL]
  | succ i ih =>
    simp only [blkL, List.length_append, List.length_cons, list_size]
    have := chB_size s i
    omega
def outL (s : ByteArray) : List UInt8 := blkL s (nch s) ++ [0]
/-- what blocks mean: a text, and how many bytes were used -/
def jn (t : List UInt8) : Nat → Nat → List UInt8 → Option (List UInt8 × Nat)
  | 0, _, _ => none
  | f + 1, a, out => if a < t.length then
      (if (t.getD a 0).toNat = 0 then some (out, a + 1)
       else if t.length < a + 1 + (t.getD a 0).toNat then none
       else jn t f (a + 1 + (t.getD a 0).toNat) (out ++ (t.drop (a + 1)).take (t.getD a 0).toNat))
    else none
def joined (t : List UInt8) : Option (List UInt8 × Nat) := jn t (t.length + 1) 0 []
theorem jn_end {t : List UInt8} {f a : Nat} {out : List UInt8} (h : t.length ≤ a) : jn t f a out = none := by
  cases f with
  | zero => rfl
  | succ f => simp only [jn]; rw [if_neg (by omega)]
theorem jn_zero {t : List UInt8} {f a : Nat} {out : List UInt8} (h : a < t.length) (hf : t.length < f + a) (h0 : (t.getD a 0).toNat = 0) : jn t f a out = some (out, a + 1) := by
  cases f with
  | zero => omega
  | succ f => simp only [jn]; rw [if_pos h, if_pos h0]
theorem jn_over {t : List UInt8} {f a n : Nat} {out : List UInt8} (h : a < t.length) (hn : (t.getD a 0).toNat = n) (h0 : n ≠ 0) (h1 : t.length < a + 1 + n) : jn t f a out = none := by
  cases f with
  | zero => rfl
  | succ f => simp only [jn]; rw [if_pos h, hn, if_neg h0, if_pos h1]
theorem jn_next {t : List UInt8} {f a n : Nat} {out : List UInt8} (h : a < t.length) (hf : t.length < f + a) (hn : (t.getD a 0).toNat = n) (h0 : n ≠ 0) (h1 : a + 1 + n ≤ t.length) :
    ∃ f', jn t f a out = jn t f' (a + 1 + n) (out ++ (t.drop (a + 1)).take n) ∧ t.length < f' + (a + 1 + n) := by
  cases f with
  | zero => omega
  | succ f => exact ⟨f, by simp only [jn]; rw [if_pos h, hn, if_neg h0, if_neg (by omega)], by omega⟩
theorem blk_take (s : ByteArray) (i : Nat) : s.data.toList.take ((i + 1) * 255) = s.data.toList.take (i * 255) ++ (chB s i).data.toList := by
  unfold chB
  rw [ex_list, show (i + 1) * 255 = i * 255 + ((i + 1) * 255 - i * 255) by omega, List.take_add]
  congr 2
  omega
theorem blkL_split (s : ByteArray) (i : Nat) : ∀ d, ∃ m, blkL s (i + 1 + d) = blkL s i ++ (UInt8.ofNat (chB s i).size :: (chB s i).data.toList) ++ m := by
  intro d
  induction d with
  | zero => exact ⟨[], by simp [blkL]⟩
  | succ d ih =>
    obtain ⟨m, hm⟩ := ih
    exact ⟨m ++ (UInt8.ofNat (chB s (i + 1 + d)).size :: (chB s (i + 1 + d)).data.toList), by show blkL s (i + 1 + d) ++ _ = _; rw [hm]; simp⟩
theorem join_at (s : ByteArray) (m : List UInt8) : ∀ i, i ≤ nch s → ∃ f, joined (outL s ++ m) = jn (outL s ++ m) f (blkL s i).length (s.data.toList.take (i * 255)) ∧ (outL s ++ m).length < f + (blkL s i).length := by
  intro i
  induction i with
  | zero => intro _; exact ⟨(outL s ++ m).length + 1, by simp [joined, blkL], by simp [blkL]⟩
  | succ i ih =>
    intro hi
    obtain ⟨f, h1, h2⟩ := ih (by omega)
    obtain ⟨r, hr⟩ := blkL_split s i (nch s - (i + 1))
    rw [show i + 1 + (nch s - (i + 1)) = nch s by omega] at hr
    have hc := chB_size s i
    have hlt := (nch_iff s i).1 (by omega)
    have e : outL s ++ m = blkL s i ++ (UInt8.ofNat (chB s i).size :: ((chB s i).data.toList ++ (r ++ [0] ++ m))) := by unfold outL; rw [hr]; simp
    have hg : ((outL s ++ m).getD (blkL s i).length 0).toNat = (chB s i).size := by
      rw [e, List.getD, List.getElem?_append_right (Nat.le_refl _), Nat.sub_self]
      show (UInt8.ofNat _).toNat = _
      rw [UInt8.toNat_ofNat']; omega
    have hl : (outL s ++ m).length = (blkL s i).length + 1 + (chB s i).size + (r ++ [0] ++ m).length := by rw [e]; simp only [List.length_append, List.length_cons, list_size]; omega
    obtain ⟨f', q1, q2⟩ := jn_next (t := outL s ++ m) (f := f) (a := (blkL s i).length) (n := (chB s i).size) (out := s.data.toList.take (i * 255)) (by omega) h2 hg (by omega) (by omega)
    have hd : ((outL s ++ m).drop ((blkL s i).length + 1)).take (chB s i).size = (chB s i).data.toList := by
      rw [e, List.drop_append, List.drop_of_length_le (by omega), List.nil_append, show (blkL s i).length + 1 - (blkL s i).length = 1 by omega]
      show ((chB s i).data.toList ++ _).take _ = _
      rw [List.take_append_of_le_length (by rw [list_size]; exact Nat.le_refl _), List.take_of_length_le (by rw [list_size]; exact Nat.le_refl _)]
    have hb : (blkL s (i + 1)).length = (blkL s i).length + 1 + (chB s i).size := by simp only [blkL, List.length_append, List.length_cons, list_size]; omega
    refine ⟨f', ?_, by rw [hb]; exact q2⟩
    rw [h1, q1, hd, hb, ← blk_take]
theorem join_blocks (s : ByteArray) (m : List UInt8) : joined (outL s ++ m) = some (s.data.toList, (outL s).length) := by
  obtain ⟨f, h1, h2⟩ := join_at s m (nch s) (Nat.le_refl _)
  have hl : (outL s).length = (blkL s (nch s)).length + 1 := by simp [outL]
  have hg : ((outL s ++ m).getD (blkL s (nch s)).length 0).toNat = 0 := by
    unfold outL
    rw [List.append_assoc, List.getD, List.getElem?_append_right (Nat.le_refl _), Nat.sub_self]
    rfl
  have ht : s.data.toList.take (nch s * 255) = s.data.toList := List.take_of_length_le (by rw [list_size]; unfold nch; omega)
  rw [h1, jn_zero (by rw [List.length_append, hl]; omega) h2 hg, ht, hl]
/-- rows of bytes that grow -/
theorem strCells_eq (s : ByteArray) : Lib.strCells s = bytesV s.data.toList := rfl
theorem grow_str {w w3 w4 : World} {u v : Value} {L : Nat} {U : List UInt8} {s : ByteArray} (hE : Ext w w3) (hR : w3.ownsRow w.heap.size 5 1 u L (bytesV U)) (hg : w3.grownBy w4 u.ownBlock)
    (ho : w4.ownsRow w.heap.size 5 1 v (L + s.size) (bytesV U ++ Lib.strCells s)) : w4.ownsRow w.heap.size 5 1 v (L + s.size) (bytesV (U ++ s.data.toList)) ∧ Ext w w4 := by
  refine ⟨?_, Below.trans hE ((Keeps.grown hg).below hE.size (fun k hk e => by have := (hR.lt k e).1; omega))⟩
  have e : bytesV (U ++ s.data.toList) = bytesV U ++ Lib.strCells s := by rw [strCells_eq]; simp [bytesV]
  rw [e]; exact ho
theorem grow_one {w w3 w4 : World} {u v : Value} {L : Nat} {U : List UInt8} {y : UInt8} (hE : Ext w w3) (hR : w3.ownsRow w.heap.size 5 1 u L (bytesV U)) (hg : w3.grownBy w4 u.ownBlock)
    (ho : w4.ownsRow w.heap.size 5 1 v (L + 1) (bytesV U ++ [.int .u8 (y.toNat : Int)])) : w4.ownsRow w.heap.size 5 1 v (L + 1) (bytesV (U ++ [y])) ∧ Ext w w4 := by
  refine ⟨?_, Below.trans hE ((Keeps.grown hg).below hE.size (fun k hk e => by have := (hR.lt k e).1; omega))⟩
  have e : bytesV (U ++ [y]) = bytesV U ++ [.int .u8 (y.toNat : Int)] := by simp [bytesV]
  rw [e]; exact ho
theorem lit_row {w : World} {base : Nat} {e : TypeId} {size : Nat} {v : Value} {n : Nat} {xs : List Value} (h : w.ownsRow base e size v n xs) : ∃ x c, v = .slice x n c := by
  rcases ownsRow_slice h with ⟨h1, h2⟩ | ⟨g, cap, h1⟩
  · exact ⟨none, 0, by rw [h1, h2]⟩
  · exact ⟨_, cap, h1⟩
theorem conv_row {w : World} {base L : Nat} {v : Value} {l : List UInt8} (hl : l.length = L) (h : w.ownsRow base 5 1 v L (bytesV l)) : (convert 61 9 v).run Tryd.prog w = .ok (.string (tb l)) w := by
  rw [tb_eq]
  subst hl
  rcases ownsRow_slice h with ⟨rfl, h0⟩ | ⟨g, cap, rfl⟩
  · rw [run_convert_bytes_string w 61 9 5 none 0 0 Tryd.underlying61 Tryd.underlying5 Tryd.underlying9, List.eq_nil_of_length_eq_zero h0]; rfl
  · refine run_convert_bytes_back (P := Tryd.prog) w 61 9 5 ⟨g, 0, none⟩ cap l Tryd.underlying61 Tryd.underlying5 Tryd.underlying9 (fun j hj => ?_)
    rw [add_plain, h.cellAt j (by omega), bytesV_get _ j hj]
theorem u8inf : (Tryd.prog.info? 5).map (fun i => (i.zero, i.size, i.bytes)) = some (some (.int .u8 0), 1, 1) := by kernel_rfl
theorem one8 (b : Int) : ∀ u ∈ [Value.int .u8 b], u.oneCell' = true := by intro u hu; rw [List.mem_singleton.1 hu]; rfl
theorem emp_iff (s : ByteArray) : s.toList.isEmpty = decide (s.size = 0) := by
  rw [ByteArray.toList_eq, ← list_size]
  cases s.data.toList <;> rfl
theorem emp_no (s : ByteArray) (h : s.size ≠ 0) : s.toList.isEmpty = false := by rw [emp_iff]; exact decide_eq_false h
theorem emp_yes (s : ByteArray) (h : s.size = 0) : s.toList.isEmpty = true := by rw [emp_iff]; exact decide_eq_true h
end Go.Proofs.YtnhbjgmfbcedaaaDoor
