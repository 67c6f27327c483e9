/- huff's Tree.Next: what symbol comes next. -/
import Derived.Test.YtkddbhngffbljaaDoorNextLaw
import Derived.Test.YtkddbhngffbljaaDoorRead
import Derived.Test.YtkddbhngffbljaaDoorGetOut
import Derived.Test.YtkddbhngffbljaaDoorThree
namespace Go.Proofs.YtkddbhngffbljaaDoor
open Go.RowKit
set_option maxRecDepth 100000
theorem TAt.kept {S : Nat → Prop} {w w' : World} {T : Nat} {v : Value} {f : Nat → Int} {len : Nat} {l : List Nat} (h : TAt w T v f len l) (hk : Keeps S w w') (hT : ¬ S T) (hv : ∀ k, v.ownBlock = some k → ¬ S k) : TAt w' T v f len l := by
  have hlt : T < w.heap.size := World.block_lt_of_cell? w _ h.cell
  exact ⟨fun j hj => (hk.cell (p := ⟨T, j, none⟩) hlt hT).trans (h.many j hj), (hk.cell (p := ⟨T, 16, none⟩) hlt hT).trans h.cell, (hk.frozen (p := ⟨T, 16, none⟩) hlt hT).trans h.free, ownsRow_kept h.row hk hv, h.apart⟩
theorem or_bit (c b : Nat) (hc : c < 1048576) (hb : b < 2) : bits BinOp.or IntKind.i64 ((2 * c : Nat) : Int) (b : Int) = ((2 * c + b : Nat) : Int) := by
  have e : (2 * c) ||| b = 2 * c + b := by
    have := Nat.two_pow_add_eq_or_of_lt (i := 1) (b := b) (by omega) c
    simpa using this.symm
  show IntKind.i64.wrap ((BitVec.ofInt 64 ((2 * c : Nat) : Int) ||| BitVec.ofInt 64 (b : Int)).toNat : Int) = _
  rw [BitVec.ofInt_natCast, BitVec.ofInt_natCast, BitVec.toNat_or, BitVec.toNat_ofNat, BitVec.toNat_ofNat, Nat.mod_eq_of_lt (by omega), Nat.mod_eq_of_lt (by omega), e, IntKind.wrap_i64]
  omega
theorem RAt.lt {w : World} {B o a : Nat} {s : ByteArray} (h : RAt w B o s a) : B < w.heap.size := World.block_lt_of_cell? w _ h.c0
theorem RAt.ext {w w' : World} {B o a : Nat} {s : ByteArray} (h : RAt w B o s a) (hE : Ext w w') : RAt w' B o s a :=
  ⟨(hE.cell (p := ⟨B, o, none⟩) h.lt).trans h.c0, (hE.cell (p := ⟨B, o + 1, none⟩) h.lt).trans h.c1, (hE.frozen (p := ⟨B, o + 1, none⟩) h.lt).trans h.f1, h.size, h.le⟩
theorem RStep.of_ext {w w' : World} {B : Nat} (o : Nat) (hE : Ext w w') (hB : B < w.heap.size) : RStep w w' B o :=
  ⟨hE.keeps, fun j _ => hE.cell (p := ⟨B, j, none⟩) hB, fun j => hE.frozen (p := ⟨B, j, none⟩) hB⟩
theorem RStep.after {w0 w w' : World} {B o : Nat} (h : RStep w w' B o) (hX : Ext w0 w) (hB : w0.heap.size ≤ B) : Ext w0 w' := Below.trans hX (h.below hB hX.size)
def NextIs (w' : World) (e : Ending) (B o : Nat) (s : ByteArray) (a : Nat) (f : Nat → Int) (len : Nat) (E : Nat → Addr) : Prop :=
  (∃ n k, 1 ≤ n ∧ n ≤ 15 ∧ a + n ≤ 8 * s.size ∧ NoHit f len (Crc.num s.data.toList) a (n - 1) ∧ k < len ∧ f k = (n : Int) ∧ word f len k = codeAt (Crc.num s.data.toList) a n ∧ e = .returned (.tuple #[.int .i64 (k : Int), .nilIface]) ∧ RAt w' B o s (a + n)) ∨
  ((∀ m, m ≤ 15 → a + m ≤ 8 * s.size → NoHit f len (Crc.num s.data.toList) a m) ∧ e = .returned (.tuple #[.int .i64 0, sentV (E 0)]) ∧ ∃ a', a' ≤ 8 * s.size ∧ RAt w' B o s a')
theorem next_none (T B o a : Nat) (x : Option Addr) (cap : Nat) (f : Nat → Int) (len : Nat) (s : ByteArray) (w0 w : World) (E : Nat → Addr) (hE : Errs w0 E) (hX : Ext w0 w) (hU : upTo f len 15 = 0) (hT : w.cell? ⟨T, 16, none⟩ = some (.slice x 0 cap)) (hR : RAt w B o s a) (ha : a ≤ 8 * s.size) :
    Calls Tryd.prog 40 #[.pointer (some ⟨T, 0, none⟩), .pointer (some ⟨B, o, none⟩)] w fun e w' => NextIs w' e B o s a f len E ∧ RStep w w' B o := by
  have hv := (hE.ext hX).var 0 (by decide)
  simp only [gk, sentV] at hv
  have HR := Lib.hid hR
  have HU := Lib.hid hU
  clear hE hX hR hU
  go_enter Tryd.func40, Tryd.ntmps40
  go_wp2_with fail
  refine wp_loop_rounds 1 ?_
  rw [rounds_succ]
  go_wp2_with fail
  go_region
  all_goals go_wp2_with fail
  all_goals go_ret2
  all_goals exact ⟨.inr ⟨fun m hm _ => by
    intro j h1 h2
    exact NoHit.all (NoHit.zero f len (Crc.num s.data.toList) a) (by rw [HU.out]; exact Nat.zero_le _) (by omega) j h1 (by omega), rfl, a, ha, HR.out.drewN 1⟩, (RStep.refl _ _ _).drewN 1⟩
theorem next_some (T B o a g cap : Nat) (f : Nat → Int) (len : Nat) (s : ByteArray) (w0 w : World) (E : Nat → Addr) (hE : Errs w0 E) (hX : Ext w0 w) (hB : w0.heap.size ≤ B) (hl : len ≤ 300) (hT : TAt w T (.slice (some ⟨g, 0, none⟩) (upTo f len 15) cap) f len (symA f len 15)) (hR : RAt w B o s a) (ha : a ≤ 8 * s.size) (hTB : T ≠ B) (hvB : g ≠ B) :
    Calls Tryd.prog 40 #[.pointer (some ⟨T, 0, none⟩), .pointer (some ⟨B, o, none⟩)] w fun e w' => NextIs w' e B o s a f len E ∧ RStep w w' B o := by
  have hsz := hR.size
  have HE := Lib.hid hE
  have HX := Lib.hid hX
  have HT := Lib.hid hT
  have HR := Lib.hid hR
  have HTB := Lib.hid hTB
  have HVB := Lib.hid hvB
  have HLL := Lib.hid (symA_length f len 15)
  have HS0 := Lib.hid (hit_sym f len)
  clear hE hX hT hR hTB hvB
  go_enter Tryd.func40, Tryd.ntmps40
  go_wp2_with fail
  go_loopw [6, 7, 8, 9] (fun c fi at_ n wr => ∃ m : Nat, m ≤ 15 ∧ c = .int .i64 ((2 * codeAt (Crc.num s.data.toList) a m : Nat) : Int) ∧ fi = .int .i64 (first f len (m + 1) : Int) ∧ at_ = .int .i64 (upTo f len m : Int) ∧ n = .int .i64 ((m : Int) + 1) ∧ Hid (NoHit f len (Crc.num s.data.toList) a m) ∧ a + m ≤ 8 * s.size ∧ Hid (RAt wr B o s (a + m)) ∧ Hid (RStep w wr B o)) (fun _ _ _ n _ => 16 - (intOf n).toNat)
  case atStart => exact ⟨0, by omega, rfl, rfl, rfl, rfl, Lib.hid (NoHit.zero _ _ _ _), by omega, HR, Lib.hid (RStep.refl _ _ _)⟩
  case round =>
    obtain ⟨m, hm, rfl, rfl, rfl, rfl, HN, ham, HA, HS⟩ := hrel
    have hTw := HT.out.kept (S := fun k => k = B) HS.out.keeps HTB.out (fun k hk e => HVB.out (by cases hk; exact e))
    have hcl : codeAt (Crc.num s.data.toList) a m < 32768 := Nat.lt_of_lt_of_le (codeAt_lt _ _ m) (Nat.pow_le_pow_right (n := 2) (by decide) hm)
    have hu1 : upTo f len m ≤ 4500 := Nat.le_trans (upTo_bd f len m) (Nat.mul_le_mul hm hl)
    have hu2 : upTo f len 15 ≤ 4500 := Nat.le_trans (upTo_bd f len 15) (Nat.mul_le_mul (Nat.le_refl _) hl)
    have hfi := HN.out.next
    have c16 := hTw.cell
    have HTW := Lib.hid hTw
    clear hTw
    obtain ⟨C, hC⟩ : ∃ C, 2 * codeAt (Crc.num s.data.toList) a m = C := ⟨_, rfl⟩
    obtain ⟨F, hF⟩ : ∃ F, first f len (m + 1) = F := ⟨_, rfl⟩
    obtain ⟨U, hU⟩ : ∃ U, upTo f len m = U := ⟨_, rfl⟩
    obtain ⟨V, hV⟩ : ∃ V, upTo f len 15 = V := ⟨_, rfl⟩
    have hC2 : C ≤ 65536 := by omega
    rw [hC, hF] at hfi
    rw [hU] at hu1
    rw [hV] at hu2 c16
    rw [hC, hF, hU]
    have HC := Lib.hid hC
    have HF := Lib.hid hF
    have HU := Lib.hid hU
    have HV := Lib.hid hV
    clear hC hF hU hV hcl
    by_cases hgo : m < 15 ∧ U < V
    · obtain ⟨hm15, hup⟩ := hgo
      have t1 : decide ((m : Int) + 1 ≤ 15) = true := decide_eq_true (by omega)
      have t2 : decide (U < V) = true := decide_eq_true hup
      by_cases hbit : a + m + 1 ≤ 8 * s.size
      · obtain ⟨b, hb⟩ : ∃ b, Crc.num s.data.toList / 2 ^ (a + m) % 2 = b := ⟨_, rfl⟩
        have hb2 : b < 2 := by rw [← hb]; exact Nat.mod_lt _ (by decide)
        have HBI := Lib.hid hb
        clear hb
        go_wp2_with fail
        refine (get_in B o (a + m) 1 s _ HA.out (by omega) hbit).mono ?_
        rintro e w2 ⟨rfl, hA2, hS2⟩
        rw [show (2 : Nat) ^ 1 = 2 from rfl, HBI.out]
        have HA2 := Lib.hid hA2
        have HS2 := Lib.hid (HS.out.trans hS2)
        have hTw2 := HT.out.kept (S := fun k => k = B) (HS2.out).keeps HTB.out (fun k hk e => HVB.out (by cases hk; exact e))
        have hcn := hTw2.many (m + 1) (by omega)
        have c16' := hTw2.cell
        rw [HV.out] at c16'
        have HTW2 := Lib.hid hTw2
        obtain ⟨K, hK⟩ : ∃ K, many f (m + 1) len = K := ⟨_, rfl⟩
        have hKl : K ≤ 300 := by rw [← hK]; exact Nat.le_trans (many_le f (m + 1) len) hl
        rw [hK] at hcn
        obtain ⟨D, hD⟩ : ∃ D, C + b = D := ⟨_, rfl⟩
        have hor : bits BinOp.or IntKind.i64 (C : Int) (b : Int) = (D : Int) := by
          have := or_bit (codeAt (Crc.num s.data.toList) a m) b (Nat.lt_of_lt_of_le (codeAt_lt _ _ m) (Nat.pow_le_pow_right (n := 2) (by decide) (by omega : m ≤ 20))) hb2
          rw [HC.out] at this; rw [this, hD]
        have HOR := Lib.hid hor
        have hD1 : C ≤ D := by omega
        have hD2 : D ≤ C + 1 := by omega
        have HD := Lib.hid hD
        have HK := Lib.hid hK
        clear hA2 hS2 hTw2 c16 hD hK
        by_cases hhit : D < F + K
        · have t3 : decide ((D : Int) - F < K) = true := decide_eq_true (by omega)
          have hcode : codeAt (Crc.num s.data.toList) a (m + 1) = D := by
            rw [← HD.out, ← HC.out, ← HBI.out]; rfl
          obtain ⟨k, hk1, hk2, hk3, hk4⟩ := HS0.out D (m + 1) (by omega) (by omega) (by rw [HF.out]; omega) (by rw [HF.out, HK.out]; exact hhit)
          rw [Nat.add_sub_cancel, HU.out, HF.out] at hk1
          have hidx : U + D - F < V := by
            rw [← HV.out, ← HLL.out]
            rcases Nat.lt_or_ge (U + (D - F)) (symA f len 15).length with q | q
            · omega
            · rw [List.getElem?_eq_none q] at hk1; cases hk1
          have hrow := HTW2.out.row
          rw [HLL.out, HV.out] at hrow
          have hcell : w2.cell? ⟨g, U + D - F, none⟩ = some (.int .i64 (k : Int)) := by
            have q := hrow.cellAt (U + D - F) (by omega)
            rw [q]; unfold symV; rw [List.getElem?_map, show U + D - F = U + (D - F) by omega, hk1]; rfl
          have HK2 := Lib.hid hk2
          have HK3 := Lib.hid hk3
          have HK4 := Lib.hid hk4
          have HCD := Lib.hid hcode
          have hi1 : (0 : Int) ≤ (U : Int) + D - F := by omega
          have hi2 : (U : Int) + D - F < (V : Int) := by omega
          clear hrow hk1 hk2 hk3 hk4 hcode t3 hcn hor
          have t3 : decide ((D : Int) - F < K) = true := decide_eq_true (by omega)
          have hcn := HTW2.out.many (m + 1) (by omega)
          rw [HK.out] at hcn
          have hor : bits BinOp.or IntKind.i64 (C : Int) (b : Int) = (D : Int) := HOR.out
          go_wp2_with fail
          go_ret2
          refine ⟨.inl ⟨m + 1, k, by omega, by omega, by omega, ?_, HK2.out, HK3.out, ?_, rfl, HA2.out⟩, HS2.out⟩
          · rw [Nat.add_sub_cancel]; exact HN.out
          · rw [HCD.out]; exact HK4.out
        · have t3 : decide ((D : Int) - F < K) = false := decide_eq_false (by omega)
          go_wp2_with fail
          go_roundw
          case rel =>
            have hcode : codeAt (Crc.num s.data.toList) a (m + 1) = D := by
              rw [← HD.out, ← HC.out, ← HBI.out]; rfl
            refine ⟨m + 1, by omega, ?_, ?_, ?_, by go_num, Lib.hid (HN.out.succ ?_), by omega, HA2, HS2⟩
            · rw [hcode]; exact val_int (by omega)
            · rw [first_succ f len (m + 1) (by omega), HF.out, HK.out]; exact val_int (by omega)
            · exact val_int (by rw [← HU.out, ← HK.out]; simp only [upTo]; omega)
            · rw [hcode, HF.out, HK.out]; omega
          case measure => simp [intOf]; omega
      · have hv := (HE.out.ext (HS.out.after HX.out hB)).var 0 (by decide)
        go_wp2_with fail
        refine (get_text B o (a + m) 1 s _ E (HE.out.ext (HS.out.after HX.out hB)) HA.out (by omega) (by omega) ham).mono ?_
        rintro e w2 ⟨rfl, h2⟩
        have HA2 := Lib.hid (HA.out.ext h2)
        have HS2 := Lib.hid (HS.out.trans (RStep.of_ext o h2 HA.out.lt))
        clear h2 hv c16
        unfold sentV
        go_wp2_with fail
        go_ret2
        refine ⟨.inr ⟨fun m' h1 h2 => ?_, rfl, a + m, ham, HA2.out⟩, HS2.out⟩
        have : m' ≤ m := by omega
        exact fun j q1 q2 => HN.out j q1 (by omega)
    · have hv := (HE.out.ext (HS.out.after HX.out hB)).var 0 (by decide)
      simp only [gk, sentV] at hv
      by_cases hm15 : m < 15
      · have t1 : decide ((m : Int) + 1 ≤ 15) = true := decide_eq_true (by omega)
        have t2 : decide (U < V) = false := decide_eq_false (by omega)
        have huv : V ≤ U := by omega
        go_wp2_with fail
        go_region
        all_goals go_wp2_with fail
        all_goals go_ret2
        all_goals exact ⟨.inr ⟨fun m' h1 h2 => fun j q1 q2 => NoHit.all HN.out (by rw [HV.out, HU.out]; exact huv) hm j q1 (by omega), rfl, a + m, ham, HA.out.drewN 1⟩, HS.out.drewN 1⟩
      · have t1 : decide ((m : Int) + 1 ≤ 15) = false := decide_eq_false (by omega)
        go_wp2_with fail
        go_region
        all_goals go_wp2_with fail
        all_goals go_ret2
        all_goals exact ⟨.inr ⟨fun m' h1 h2 => fun j q1 q2 => HN.out j q1 (by omega), rfl, a + m, ham, HA.out.drewN 1⟩, HS.out.drewN 1⟩
theorem next_any (T B o a : Nat) (v : Value) (f : Nat → Int) (len : Nat) (s : ByteArray) (w0 w : World) (E : Nat → Addr) (hE : Errs w0 E) (hX : Ext w0 w) (hB : w0.heap.size ≤ B) (hl : len ≤ 300) (hT : TAt w T v f len (symA f len 15)) (hR : RAt w B o s a) (ha : a ≤ 8 * s.size) (hTB : T ≠ B) (hvB : v.ownBlock ≠ some B) :
    Calls Tryd.prog 40 #[.pointer (some ⟨T, 0, none⟩), .pointer (some ⟨B, o, none⟩)] w fun e w' => NextIs w' e B o s a f len E ∧ RStep w w' B o := by
  have hrow := hT.row
  rcases ownsRow_slice hrow with ⟨rfl, h2⟩ | ⟨g, cap, rfl⟩
  · exact next_none T B o a none 0 f len s w0 w E hE hX (by rw [← symA_length]; exact h2) hT.cell hR ha
  · rw [symA_length] at hT hvB
    exact next_some T B o a g cap f len s w0 w E hE hX hB hl hT hR ha hTB (fun e => hvB (by rw [e]; rfl))
end Go.Proofs.YtkddbhngffbljaaDoor
