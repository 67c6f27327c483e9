/-
  inflate: the closures that read a distance.
-/
import Derived.Test.YtnhbjgmfbcedaaaDoorDeflateFixedG7
namespace Go.Proofs.YtnhbjgmfbcedaaaDoor
open Go.RowKit
set_option linter.unusedSimpArgs false
set_option linter.unusedVariables false
set_option maxRecDepth 100000
theorem enters_fn {P : Program} {f : FuncId} {fn : Func} {c : Code} (hf : P.funcs[f]? = some fn) (hname : (fn.name == "runtime.NumGoroutine") = false) (hb : fn.body = some c) (args : Array Value) (w : World) : (callFunc f args).run P w = .ok (.enter f args) w := by
  have h1 : fn.name ≠ "runtime.NumGoroutine" := by simpa using hname
  simp [callFunc, hf, h1, hb, mark]
theorem IGo.trans {w0 w wr w' : World} {R B a a' most : Nat} {s : ByteArray} {v0 v v' : Value} {out out' : List UInt8} (h : IGo w0 w wr R B s a v0 v out most) (k : IGo w0 wr w' R B s a' v v' out' most) : IGo w0 w w' R B s a' v0 v' out' most := ⟨k.st, h.step.trans k.step⟩
namespace Inf
theorem good_fix : good fixF 288 := by
  refine ⟨⟨by decide, fun j _ => ?_⟩, .inr (.inr ?_)⟩
  · unfold fixF; split <;> (try split) <;> (try split) <;> omega
  · decide +kernel
theorem good_five : good fiveF 32 := ⟨⟨by decide, fun j _ => by unfold fiveF; omega⟩, .inr (.inr (by decide +kernel))⟩
theorem word_five : ∀ k, k < 32 → word fiveF 32 k = k := by decide +kernel
theorem nxt_five {L : List UInt8} {a : Nat} (h : a + 5 ≤ 8 * L.length) : nxt L fiveF 32 a = .ok (codeAt (Crc.num L) a 5, a + 5) := by
  have hl := codeAt_lt (Crc.num L) a 5
  exact nxt_hit good_five.2 ⟨by omega, by omega, h, hl, rfl, word_five _ hl⟩
theorem nxt_five_no {L : List UInt8} {a : Nat} (h : 8 * L.length < a + 5) : nxt L fiveF 32 a = .error 0 := by
  refine nxt_none fun n k hh => ?_
  have h1 := hh.2.2.2.2.1
  have h2 := hh.2.2.1
  have : (5 : Int) = n := h1
  omega
end Inf
def NPost (w0 w : World) (R B : Nat) (s : ByteArray) (v : Value) (out : List UInt8) (most : Nat) (E : Nat → Addr) (r : Except Nat (Nat × Nat)) (e : Ending) (w' : World) : Prop :=
  match r with
  | .ok (k, a') => e = .returned (.int .i64 (k : Int)) ∧ IGo w0 w w' R B s a' v v out most
  | .error c => e = thrown (E c) ∧ Ext w0 w'
section
variable {w0 w w' : World} {R B a' k c most : Nat} {s : ByteArray} {v : Value} {out : List UInt8} {E : Nat → Addr} {r : Except Nat (Nat × Nat)} {e : Ending}
theorem npost_ok {x : Value} (hr : r = .ok (k, a')) (hx : x = .int .i64 (k : Int)) (h : IGo w0 w w' R B s a' v v out most) : NPost w0 w R B s v out most E r (.returned x) w' := by subst hr hx; exact ⟨rfl, h⟩
theorem npost_error (hr : r = .error c) (h : Ext w0 w') : NPost w0 w R B s v out most E r (thrown (E c)) w' := by subst hr; exact ⟨rfl, h⟩
theorem NPost.yes (h : NPost w0 w R B s v out most E r e w') (hr : r = .ok (k, a')) : e = .returned (.int .i64 (k : Int)) ∧ IGo w0 w w' R B s a' v v out most := by subst hr; exact h
theorem NPost.no (h : NPost w0 w R B s v out most E r e w') (hr : r = .error c) : e = thrown (E c) ∧ Ext w0 w' := by subst hr; exact h
end
/-- a variable that a closure holds -/
def BoxB (b : Nat) (x : Value) (R B : Nat) (w : World) (v : Value) : Prop := Bk w b #[x] ∧ b ≠ R ∧ b ≠ B ∧ v.ownBlock ≠ some b
theorem BoxB.step {b R B : Nat} {x : Value} {w w' : World} {v v' : Value} (h : BoxB b x R B w v) (k : IStep w w' R B v v') : BoxB b x R B w' v' := by
  obtain ⟨h1, h2, h3, h4⟩ := h
  have hl := h1.lt
  refine ⟨h1.keeps k.keeps ?_, h2, h3, fun q => ?_⟩
  · rintro (q | q | q)
    · exact h2 q
    · exact h3 q
    · exact h4 q
  · rcases k.new b q with r | r
    · exact h4 r
    · omega
set_option linter.unusedSimpArgs false in
set_option maxHeartbeats 1000000 in
theorem five_any (b R B a most : Nat) (s : ByteArray) (v : Value) (out : List UInt8) (w0 w : World) (E : Nat → Addr) (hE : Errs w0 E) (hI : ISt w0 w R B s a v out most) (hD : BoxB b (.pointer (some ⟨R, 0, none⟩)) R B w v) :
    Calls Tryd.prog 81 #[.pointer (some ⟨b, 0, none⟩)] w fun e w' => NPost w0 w R B s v out most E (Inf.nxt s.data.toList Inf.fiveF 32 a) e w' := by
  have HE := Lib.hid hE
  have H0 := Lib.hid (IGo.start hI)
  have HD := Lib.hid hD
  have hle := hI.le
  obtain ⟨r, hr⟩ : ∃ r, Inf.nxt s.data.toList Inf.fiveF 32 a = r := ⟨_, rfl⟩
  rw [hr]
  have HR := Lib.hid hr
  obtain ⟨N, hN⟩ : ∃ N, Crc.num s.data.toList = N := ⟨_, rfl⟩
  have HN := Lib.hid hN
  clear hE hI hD hr hN
  go_enter Tryd.func81, Tryd.ntmps81
  go_wp2_with fail
  go_loopw [2, 3] (fun x y wr => ∃ i : Nat, i ≤ 5 ∧ y = .int .i64 i ∧ x = .int .i64 (codeAt N a i : Int) ∧ Hid (IGo w0 w wr R B s (a + i) v v out most) ∧ a + i ≤ 8 * s.size) (fun _ y _ => 5 - (intOf y).toNat)
  case atStart => exact ⟨0, by omega, rfl, rfl, H0, hle⟩
  case round =>
    clear H0
    obtain ⟨i, hi, rfl, rfl, H, hai⟩ := hrel
    have hcl := codeAt_lt N a i
    have h32 : 2 ^ i ≤ 2 ^ 5 := Nat.pow_le_pow_right (by decide) hi
    by_cases hlt : i < 5
    · have c0 := (HD.out.step H.out.step).1.cell 0
      obtain ⟨C, hC⟩ : ∃ C, codeAt N a i = C := ⟨_, rfl⟩
      have HC := Lib.hid hC
      rw [hC] at hcl ⊢
      have hC32 : C < 32 := by omega
      have wi : ∀ z, z = (i : Int) + 1 → IntKind.i64.wrap z = z := by rintro _ rfl; rw [IntKind.wrap_i64]; omega
      have hC2 : (C : Int) * 2 = ((2 * C : Nat) : Int) := by omega
      have wc : ∀ z, z = ((2 * C : Nat) : Int) → IntKind.i64.wrap z = z := by rintro _ rfl; rw [IntKind.wrap_i64]; omega
      have e10 : (i : Int) < 5 := by omega
      clear hC hcl h32
      go_wp2_with fail
      by_cases h1 : a + i + 1 ≤ 8 * s.size
      · have hg : Inf.get s.data.toList 1 (a + i) = .ok (N / 2 ^ (a + i) % 2, a + i + 1) := by
          unfold Inf.get
          rw [if_pos (by rw [list_size]; exact h1), HN.out]
        obtain ⟨y, hy⟩ : ∃ y, N / 2 ^ (a + i) % 2 = y := ⟨_, rfl⟩
        have hy2 : y < 2 := by omega
        rw [hy] at hg
        have HY := Lib.hid hy
        clear hy
        refine (gget_yes R B (a + i) 1 y (a + i + 1) most s v v out w0 w _ E HE.out H.out (by omega) hg).mono ?_
        rintro e w1 ⟨rfl, hG, hS⟩
        have H1 := Lib.hid hG
        have hor := or_bit C y (by omega) hy2
        have hcod : codeAt N a (i + 1) = 2 * C + y := by simp only [codeAt, HC.out, HY.out]
        have HCOD := Lib.hid hcod
        clear hG hS hg hcod H c0
        have hor2 : bits BinOp.or IntKind.i64 ((C : Int) * 2) (y : Int) = ((2 * C + y : Nat) : Int) := by rw [hC2]; exact hor
        have hor3 : bits BinOp.or IntKind.i64 (2 * (C : Int)) (y : Int) = ((2 * C + y : Nat) : Int) := by rw [show 2 * (C : Int) = ((2 * C : Nat) : Int) by omega]; exact hor
        go_wp2_with fail
        go_roundw
        case rel => exact ⟨i + 1, by omega, by go_num, by rw [HCOD.out]; exact val_int (by omega), by rw [← Nat.add_assoc]; exact H1, by omega⟩
        case measure => simp [intOf]; omega
      · have hg : Inf.get s.data.toList 1 (a + i) = .error 0 := by
          unfold Inf.get
          rw [if_neg (by rw [list_size]; exact h1)]
        have hrr : r = .error 0 := by rw [← HR.out]; exact Inf.nxt_five_no (by rw [list_size]; omega)
        refine (gget_no R B (a + i) 1 0 most s v v out w0 w _ E HE.out H.out (by omega) hg).mono ?_
        rintro e w9 ⟨rfl, h9⟩
        exact ⟨rfl, npost_error hrr h9⟩
    · obtain rfl : i = 5 := by omega
      have hrr : r = .ok (codeAt N a 5, a + 5) := by rw [← HR.out, ← HN.out]; exact Inf.nxt_five (by rw [list_size]; omega)
      have HRR := Lib.hid hrr
      obtain ⟨C, hC⟩ : ∃ C, codeAt N a 5 = C := ⟨_, rfl⟩
      rw [hC] at HRR ⊢
      clear hrr hC hcl h32
      go_wp2_with fail
      go_ret
      exact npost_ok HRR.out rfl H.out
theorem Dist.five (b R B most : Nat) (s : ByteArray) (w0 : World) (E : Nat → Addr) (hE : Errs w0 E) : Dist 81 #[.pointer (some ⟨b, 0, none⟩)] w0 R B s most E Inf.fiveF 32 (BoxB b (.pointer (some ⟨R, 0, none⟩)) R B) := by
  refine ⟨fun args w => enters_fn Tryd.func81 (by kernel_rfl) rfl args w, fun w w' v v' h k => h.step k, ?_, ?_⟩
  · intro w wr a v0 v out k a' hG hd hn
    refine (five_any b R B a most s v out w0 wr E hE hG.st hd).mono fun e w' h => ?_
    have h := h.yes hn
    exact ⟨h.1, hG.trans h.2, h.2.step⟩
  · intro w wr a v0 v out c hG hd hn
    refine (five_any b R B a most s v out w0 wr E hE hG.st hd).mono fun e w' h => ?_
    exact h.no hn
theorem far_any (b d T R B a most gen : Nat) (g : Nat → Int) (s : ByteArray) (v : Value) (out : List UInt8) (w0 w : World) (E : Nat → Addr) (hE : Errs w0 E) (hI : ISt w0 w R B s a v out most) (hD : BoxB b (.pointer (some ⟨R, 0, none⟩)) R B w v) (hD2 : BoxB d (.pointer (some ⟨T, 0, none⟩)) R B w v) (hT : Tr w T g gen R B v) :
    Calls Tryd.prog 83 #[.pointer (some ⟨b, 0, none⟩), .pointer (some ⟨d, 0, none⟩)] w fun e w' => NPost w0 w R B s v out most E (Inf.nxt s.data.toList g gen a) e w' := by
  have HE := Lib.hid hE
  have H0 := Lib.hid (IGo.start hI)
  have HT := Lib.hid hT
  have c0 := hD.1.cell 0
  have c1 := hD2.1.cell 0
  clear hE hI hD hD2 hT
  go_enter Tryd.func83, Tryd.ntmps83
  go_wp2_with fail
  cases hn : Inf.nxt s.data.toList g gen a with
  | error c =>
    refine (gnext_no R B T a c most gen g s v v out w0 w _ E HE.out H0.out HT.out hn).mono ?_
    rintro e w9 ⟨rfl, h9⟩
    exact ⟨rfl, npost_error hn h9⟩
  | ok q =>
    obtain ⟨k, a1⟩ := q
    refine (gnext_yes R B T a k a1 most gen g s v v out w0 w _ E HE.out H0.out HT.out hn).mono ?_
    rintro e w1 ⟨rfl, hG, hS⟩
    have HG := Lib.hid hG
    have HN := Lib.hid hn
    clear hG hS hn
    go_wp2_with fail
    go_ret
    exact npost_ok HN.out rfl HG.out
theorem Dist.far (b d T R B most gen : Nat) (g : Nat → Int) (s : ByteArray) (w0 : World) (E : Nat → Addr) (hE : Errs w0 E) :
    Dist 83 #[.pointer (some ⟨b, 0, none⟩), .pointer (some ⟨d, 0, none⟩)] w0 R B s most E g gen (fun w v => BoxB b (.pointer (some ⟨R, 0, none⟩)) R B w v ∧ BoxB d (.pointer (some ⟨T, 0, none⟩)) R B w v ∧ Tr w T g gen R B v) := by
  refine ⟨fun args w => enters_fn Tryd.func83 (by kernel_rfl) rfl args w, fun w w' v v' h k => ⟨h.1.step k, h.2.1.step k, h.2.2.step k⟩, ?_, ?_⟩
  · intro w wr a v0 v out k a' hG hd hn
    refine (far_any b d T R B a most gen g s v out w0 wr E hE hG.st hd.1 hd.2.1 hd.2.2).mono fun e w' h => ?_
    have h := h.yes hn
    exact ⟨h.1, hG.trans h.2, h.2.step⟩
  · intro w wr a v0 v out c hG hd hn
    refine (far_any b d T R B a most gen g s v out w0 wr E hE hG.st hd.1 hd.2.1 hd.2.2).mono fun e w' h => ?_
    exact h.no hn
end Go.Proofs.YtnhbjgmfbcedaaaDoor
