/-
  The document's lengths of a fixed block.
  inflate.FixedLengths.
  inflate: the closures that read a distance.
-/
import Derived.Test.YtnhbjgmfbcedaaaDoorDeflateDynamicG1
import Derived.Test.YtnhbjgmfbcedaaaDoorDeflateDynamicG12
import Derived.Deep.DeepCutAuto
import Derived.Deep.CutBlock
import Derived.Test.YtnhbjgmfbcedaaaDoorDeflateDynamicG7
import Derived.Test.YtnhbjgmfbcedaaaDoorDeflateDynamicG11
import Derived.Test.YtnhbjgmfbcedaaaDoorDeflateDynamicG4
import Derived.Deep.Onto
set_option linter.unusedSimpArgs false
set_option linter.unusedVariables false
set_option maxRecDepth 100000
namespace Go.Proofs.YtnhbjgmfbcedaaaDoor
open Go.RowKit
theorem qfixed_any (w : World) : Calls Tryd.prog 47 #[] w fun e w' => ∃ C, e = .returned (.slice (some ⟨C, 0, none⟩) 288 288) ∧ w.heap.size ≤ C ∧ Ints w' (some ⟨C, 0, none⟩) 288 Inf.fixF ∧ Ext w w' := by
 have hmk := fun w => run_make_row' (P := Tryd.prog) 31 3 (.int .i64 0) 8 Tryd.underlying31 i64info rfl .i64 .i64 288 (by omega) (by omega) w;simp only [show ((288 : Nat) : Int) = 288 from rfl] at hmk;go_enter Tryd.func47, Tryd.ntmps47
 go_upto_block 0 with fail;clear hmk;obtain ⟨C, hC⟩ : ∃ C, w.heap.size = C := ⟨_, rfl⟩;refine wp_world (fun wz => Hid (Ext w wz) ∧ Hid (Cs wz C 288 .i64 (fun _ => 0))) ⟨Lib.hid ((Ext.refl w).alloc _), Lib.hid (by rw [made_eq, ← hC]; exact Cs.born w .i64 288 _ _)⟩ ?_;rw [hC];rintro w1 ⟨HX, HC⟩;have HCC := Lib.hid hC;clear hC;go_wp2_with fail;go_loopw [2] (fun z wr => ∃ i : Nat, i ≤ 288 ∧ z = .int .i64 i ∧ Hid (Ext w wr) ∧ Hid (Cs wr C 288 .i64 (fun j => if j < i then Inf.fixF j else 0))) (fun z _ => 288 - (intOf z).toNat)
 case atStart => exact ⟨0, by omega, rfl, HX, Lib.hid (HC.out.congr (fun j _ => by rw [if_neg (by omega)]))⟩
 case round =>
  clear HX HC;obtain ⟨i, hi, rfl, HX, HC⟩ := hrel;by_cases hlt : i < 288
  ·have hc : wr.cell? ⟨C, i, none⟩ = some (.int .i64 0) := by have h := (HC.out i hlt).1; simpa using h
   have hf := (HC.out i hlt).2;have wi : ∀ z, z = (i : Int) + 1 → IntKind.i64.wrap z = z := by rintro _ rfl; rw [IntKind.wrap_i64]; omega
   have hi0 : (0 : Int) ≤ (i : Int) := by omega
   have hiI : (i : Int) < 288 := by omega
   by_cases h1 : i < 144
   ·skip
    have t0 : decide ((i : Int) < 144) = true := decide_eq_true (by omega);have HN : Hid (Cs (wr.setCell ⟨C, i, none⟩ (.int .i64 8)) C 288 .i64 (fun j => if j < i + 1 then Inf.fixF j else 0)) := Lib.hid (HC.out.put i 8 _ hlt (fun j _ => by
     by_cases h : j = i
     ·subst h; rw [if_pos (by omega), if_pos rfl]; unfold Inf.fixF; rw [if_pos h1]
     ·rw [if_neg h]; by_cases h2 : j < i
      ·rw [if_pos (by omega), if_pos h2]
      ·rw [if_neg (by omega), if_neg h2]))
    have HX2 : Hid (Ext w (wr.setCell ⟨C, i, none⟩ (.int .i64 8))) := Lib.hid (Below.setCell HX.out (by show w.heap.size ≤ C; rw [HCC.out]; exact Nat.le_refl _) _);clear HX HC;go_wp2_with fail;go_roundw
    case rel => exact ⟨i + 1, by omega, by go_num, HX2, HN⟩
    case measure => simp [intOf]; omega
   ·by_cases h2 : i < 256
    ·skip
     have t0 : decide ((i : Int) < 144) = false := decide_eq_false (by omega);have t1 : decide ((i : Int) < 256) = true := decide_eq_true (by omega);have HN : Hid (Cs (wr.setCell ⟨C, i, none⟩ (.int .i64 9)) C 288 .i64 (fun j => if j < i + 1 then Inf.fixF j else 0)) := Lib.hid (HC.out.put i 9 _ hlt (fun j _ => by
      by_cases h : j = i
      ·subst h; rw [if_pos (by omega), if_pos rfl]; unfold Inf.fixF; rw [if_neg h1, if_pos h2]
      ·rw [if_neg h]; by_cases h2 : j < i
       ·rw [if_pos (by omega), if_pos h2]
       ·rw [if_neg (by omega), if_neg h2]))
     have HX2 : Hid (Ext w (wr.setCell ⟨C, i, none⟩ (.int .i64 9))) := Lib.hid (Below.setCell HX.out (by show w.heap.size ≤ C; rw [HCC.out]; exact Nat.le_refl _) _);clear HX HC;go_wp2_with fail;go_roundw
     case rel => exact ⟨i + 1, by omega, by go_num, HX2, HN⟩
     case measure => simp [intOf]; omega
    ·by_cases h3 : i < 280
     ·skip
      have t0 : decide ((i : Int) < 144) = false := decide_eq_false (by omega);have t1 : decide ((i : Int) < 256) = false := decide_eq_false (by omega);have t2 : decide ((i : Int) < 280) = true := decide_eq_true (by omega);have HN : Hid (Cs (wr.setCell ⟨C, i, none⟩ (.int .i64 7)) C 288 .i64 (fun j => if j < i + 1 then Inf.fixF j else 0)) := Lib.hid (HC.out.put i 7 _ hlt (fun j _ => by
       by_cases h : j = i
       ·subst h; rw [if_pos (by omega), if_pos rfl]; unfold Inf.fixF; rw [if_neg h1, if_neg h2, if_pos h3]
       ·rw [if_neg h]; by_cases h2 : j < i
        ·rw [if_pos (by omega), if_pos h2]
        ·rw [if_neg (by omega), if_neg h2]))
      have HX2 : Hid (Ext w (wr.setCell ⟨C, i, none⟩ (.int .i64 7))) := Lib.hid (Below.setCell HX.out (by show w.heap.size ≤ C; rw [HCC.out]; exact Nat.le_refl _) _);clear HX HC;go_wp2_with fail;go_roundw
      case rel => exact ⟨i + 1, by omega, by go_num, HX2, HN⟩
      case measure => simp [intOf]; omega
     ·skip
      have t0 : decide ((i : Int) < 144) = false := decide_eq_false (by omega);have t1 : decide ((i : Int) < 256) = false := decide_eq_false (by omega);have t2 : decide ((i : Int) < 280) = false := decide_eq_false (by omega);have HN : Hid (Cs (wr.setCell ⟨C, i, none⟩ (.int .i64 8)) C 288 .i64 (fun j => if j < i + 1 then Inf.fixF j else 0)) := Lib.hid (HC.out.put i 8 _ hlt (fun j _ => by
       by_cases h : j = i
       ·subst h; rw [if_pos (by omega), if_pos rfl]; unfold Inf.fixF; rw [if_neg h1, if_neg h2, if_neg h3]
       ·rw [if_neg h]; by_cases h2 : j < i
        ·rw [if_pos (by omega), if_pos h2]
        ·rw [if_neg (by omega), if_neg h2]))
      have HX2 : Hid (Ext w (wr.setCell ⟨C, i, none⟩ (.int .i64 8))) := Lib.hid (Below.setCell HX.out (by show w.heap.size ≤ C; rw [HCC.out]; exact Nat.le_refl _) _);clear HX HC;go_wp2_with fail;go_roundw
      case rel => exact ⟨i + 1, by omega, by go_num, HX2, HN⟩
      case measure => simp [intOf]; omega
  ·obtain rfl : i = 288 := by omega
   go_wp2_with fail;go_ret;exact ⟨C, rfl, by have := HCC.out; omega, ⟨fun e => (by cases e), fun q hq j hj => by
    injection hq with hq; subst hq; rw [add_plain];refine ⟨by have h := (HC.out j hj).1; simp only [if_pos hj] at h; exact h, ?_⟩;unfold Inf.fixF; repeat (first | split | omega)⟩, HX.out⟩
end Go.Proofs.YtnhbjgmfbcedaaaDoor
namespace Go.Proofs.YtnhbjgmfbcedaaaDoor
open Go.RowKit
theorem Ir.rep {w : World} {g n c : Nat} {x : Int} (h0 : 0 < n) (h : Cv w g n (fun _ => .int .i64 x)) : Ir w (.slice (some ⟨g, 0, none⟩) n c) (List.replicate n x) := by
  refine ⟨by simpa using h0, g, c, by simp, fun j hj => ?_⟩;have hj1 : j < n := by simpa using hj
  rw [(h j hj1).1];simp [i64V, hj1]
end Go.Proofs.YtnhbjgmfbcedaaaDoor
namespace Go.Proofs.YtnhbjgmfbcedaaaDoor
open Go.RowKit
theorem enters_fn {P : Program} {f : FuncId} {fn : Func} {c : Code} (hf : P.funcs[f]? = some fn) (hname : (fn.name == "runtime.NumGoroutine") = false) (hb : fn.body = some c) (args : Array Value) (w : World) : (callFunc f args).run P w = .ok (.enter f args) w := by
 have h1 : fn.name ≠ "runtime.NumGoroutine" := by simpa using hname
 simp [callFunc, hf, h1, hb, mark]
theorem IGo.trans {w0 w wr w' : World} {R B a a' most : Nat} {s : ByteArray} {v0 v v' : Value} {out out' : List UInt8} (h : IGo w0 w wr R B s a v0 v out most) (k : IGo w0 wr w' R B s a' v v' out' most) : IGo w0 w w' R B s a' v0 v' out' most := ⟨k.st, h.step.trans k.step⟩
namespace Inf
theorem good_fix : good fixF 288 := by
 refine ⟨⟨by decide, fun j _ => ?_⟩, .inr (.inr ?_)⟩
 ·unfold fixF; split <;> (try split) <;> (try split) <;> omega
 ·decide +kernel
theorem good_five : good fiveF 32 := ⟨⟨by decide, fun j _ => by unfold fiveF; omega⟩, .inr (.inr (by decide +kernel))⟩
theorem word_five : ∀ k, k < 32 → word fiveF 32 k = k := by decide +kernel
end Inf
def NPost (w0 w : World) (R B : Nat) (s : ByteArray) (v : Value) (out : List UInt8) (most : Nat) (E : Nat → Addr) (r : Except Nat (Nat × Nat)) (e : Ending) (w' : World) : Prop :=
 match r with
 | .ok (k, a') => e = .returned (.int .i64 (k : Int)) ∧ IGo w0 w w' R B s a' v v out most
 | .error c => e = thrown (E c) ∧ Ext w0 w'
section
variable {w0 w w' : World} {R B a' k c most : Nat} {s : ByteArray} {v : Value} {out : List UInt8} {E : Nat → Addr} {r : Except Nat (Nat × Nat)} {e : Ending}
theorem npost_ok {x : Value} (hr : r = .ok (k, a')) (hx : x = .int .i64 (k : Int)) (h : IGo w0 w w' R B s a' v v out most) : NPost w0 w R B s v out most E r (.returned x) w' := by subst hr hx; exact ⟨rfl, h⟩
theorem npost_error (hr : r = .error c) (h : Ext w0 w') : NPost w0 w R B s v out most E r (thrown (E c)) w' := by subst hr; exact ⟨rfl, h⟩
theorem NPost.yes (h : NPost w0 w R B s v out most E r e w') (hr : r = .ok (k, a')) : e = .returned (.int .i64 (k : Int)) ∧ IGo w0 w w' R B s a' v v out most := by subst hr; exact h
theorem NPost.no (h : NPost w0 w R B s v out most E r e w') (hr : r = .error c) : e = thrown (E c) ∧ Ext w0 w' := by subst hr; exact h
end
/-- a variable that a closure holds -/
def BoxB (b : Nat) (x : Value) (R B : Nat) (w : World) (v : Value) : Prop := Bk w b #[x] ∧ b ≠ R ∧ b ≠ B ∧ v.ownBlock ≠ some b
theorem BoxB.step {b R B : Nat} {x : Value} {w w' : World} {v v' : Value} (h : BoxB b x R B w v) (k : IStep w w' R B v v') : BoxB b x R B w' v' := by
 obtain ⟨h1, h2, h3, h4⟩ := h;have hl := h1.lt;refine ⟨h1.keeps k.keeps ?_, h2, h3, fun q => ?_⟩
 ·rintro (q | q | q)
  ·exact h2 q
  ·exact h3 q
  ·exact h4 q
 ·rcases k.new b q with r | r
  ·exact h4 r
  ·omega
theorem far_any (b d T R B a most gen : Nat) (g : Nat → Int) (s : ByteArray) (v : Value) (out : List UInt8) (w0 w : World) (E : Nat → Addr) (hE : Errs w0 E) (hI : ISt w0 w R B s a v out most) (hD : BoxB b (.pointer (some ⟨R, 0, none⟩)) R B w v) (hD2 : BoxB d (.pointer (some ⟨T, 0, none⟩)) R B w v) (hT : Tr w T g gen R B v) :
  Calls Tryd.prog 83 #[.pointer (some ⟨b, 0, none⟩), .pointer (some ⟨d, 0, none⟩)] w fun e w' => NPost w0 w R B s v out most E (Inf.nxt s.data.toList g gen a) e w' := by
 have HE := Lib.hid hE;have H0 := Lib.hid (IGo.start hI);have HT := Lib.hid hT;have c0 := hD.1.cell 0;have c1 := hD2.1.cell 0;clear hE hI hD hD2 hT;go_enter Tryd.func83, Tryd.ntmps83
 go_wp2_with fail;cases hn : Inf.nxt s.data.toList g gen a with
 | error c =>
  refine (gnext_no R B T a c most gen g s v v out w0 w _ E HE.out H0.out HT.out hn).mono ?_;rintro e w9 ⟨rfl, h9⟩;exact ⟨rfl, npost_error hn h9⟩
 | ok q =>
  obtain ⟨k, a1⟩ := q;refine (gnext_yes R B T a k a1 most gen g s v v out w0 w _ E HE.out H0.out HT.out hn).mono ?_;rintro e w1 ⟨rfl, hG, hS⟩;have HG := Lib.hid hG;have HN := Lib.hid hn;clear hG hS hn;go_wp2_with fail;go_ret;exact npost_ok HN.out rfl HG.out
theorem Dist.far (b d T R B most gen : Nat) (g : Nat → Int) (s : ByteArray) (w0 : World) (E : Nat → Addr) (hE : Errs w0 E) :
  Dist 83 #[.pointer (some ⟨b, 0, none⟩), .pointer (some ⟨d, 0, none⟩)] w0 R B s most E g gen (fun w v => BoxB b (.pointer (some ⟨R, 0, none⟩)) R B w v ∧ BoxB d (.pointer (some ⟨T, 0, none⟩)) R B w v ∧ Tr w T g gen R B v) := by
 refine ⟨fun args w => enters_fn Tryd.func83 (by kernel_rfl) rfl args w, fun w w' v v' h k => ⟨h.1.step k, h.2.1.step k, h.2.2.step k⟩, ?_, ?_⟩
 ·intro w wr a v0 v out k a' hG hd hn;refine (far_any b d T R B a most gen g s v out w0 wr E hE hG.st hd.1 hd.2.1 hd.2.2).mono fun e w' h => ?_;have h := h.yes hn;exact ⟨h.1, hG.trans h.2, h.2.step⟩
 ·intro w wr a v0 v out c hG hd hn;refine (far_any b d T R B a most gen g s v out w0 wr E hE hG.st hd.1 hd.2.1 hd.2.2).mono fun e w' h => ?_;exact h.no hn
end Go.Proofs.YtnhbjgmfbcedaaaDoor
