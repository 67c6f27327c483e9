/-
  deflate.runs: how a row of lengths is written.
  Stored blocks: what they are, and what they mean. No function of the program is named.
  What tokens mean, and their bits in a text: plain laws. No function of the program is named.
  A dynamic block's head: codes whose last lengths are 0 are cut; the head is read. Plain laws. No function of the program is named.
-/
import Derived.Test.YtnhbjgmfbcedaaaDoorDeflateDynamicG1
import Derived.Test.YtnhbjgmfbcedaaaDoorDeflateDynamicG5
import Derived.Test.YtnhbjgmfbcedaaaDoorDeflateDynamicG3
import Derived.Deep.AppendLies
import Derived.Test.YtnhbjgmfbcedaaaDoorDeflateDynamicG4
set_option linter.unusedSimpArgs false
set_option linter.unusedVariables false
set_option maxRecDepth 100000
namespace Go.Proofs.YtnhbjgmfbcedaaaDoor
open Go.RowKit
def rnV (rs : List Dfl.Rn) : List Value := rs.flatMap fun r => [.int .i64 (r.s : Int), .int .i64 (r.m : Int), .int .i64 (r.b : Int)]
theorem rnV_push (rs : List Dfl.Rn) (r : Dfl.Rn) : rnV (rs ++ [r]) = rnV rs ++ [.int .i64 (r.s : Int), .int .i64 (r.m : Int), .int .i64 (r.b : Int)] := by simp [rnV]
theorem runinf : (Tryd.prog.info? 128).map (fun i => (i.zero, i.size, i.bytes)) = some (some (.agg #[.int .i64 0, .int .i64 0, .int .i64 0]), 3, 24) := by kernel_rfl
/-- a row of runs, of the call's own -/
structure RR (w wr : World) (v : Value) (rs : List Dfl.Rn) : Prop where
 ext : Ext w wr
 row : wr.ownsRow w.heap.size 128 3 v rs.length (rnV rs)
theorem RR.drew {w wr : World} {v : Value} {rs : List Dfl.Rn} (h : RR w wr v rs) : RR w wr.drew v rs := ⟨Below.drew h.ext, ownsRow_kept h.row (Keeps.drew (S := fun _ => False) (Keeps.refl _ _)) (fun _ _ => id)⟩
theorem RR.grow {w wr w' : World} {v : Value} {rs : List Dfl.Rn} (h : RR w wr v rs) (hE : Ext wr w') : RR w w' v rs := ⟨h.ext.trans hE, ownsRow_kept h.row hE.keeps (S := fun _ => False) (fun _ _ => id)⟩
theorem RR.push {w wr w' : World} {v v' : Value} {rs : List Dfl.Rn} {ob : Obj} (h : RR w wr v rs) (r : Dfl.Rn) (ho : w'.ownsRow w.heap.size 128 3 v' (rs.length + 1) (rnV rs ++ [.int .i64 (r.s : Int), .int .i64 (r.m : Int), .int .i64 (r.b : Int)])) (hg : (wr.alloc ob).grownBy w' v.ownBlock) : RR w w' v' (rs ++ [r]) := by
 refine ⟨Below.trans (h.ext.trans ((Ext.refl wr).alloc ob)) ((Keeps.grown hg).below (h.ext.trans ((Ext.refl wr).alloc ob)).size (fun k hk e => by have := (World.ownsRow.lt h.row k e).1; omega)), ?_⟩;rw [List.length_append, List.length_singleton, rnV_push];exact ho
def RunPost (w : World) (l : List Nat) (e : Ending) (w' : World) : Prop := ∃ v rs, e = .returned v ∧ RR w w' v rs ∧ Dfl.Says [] rs l
/-- amid a run of lengths: d are said of those up to e -/
structure RnAt (l : List Nat) (a e x d : Nat) (rs : List Dfl.Rn) : Prop where
 says : Dfl.Says [] rs (l.take d)
 lo : a ≤ d
 hi : d ≤ e
 le : e ≤ l.length
 eq : ∀ j, a ≤ j → j < e → l.getD j 0 = x
 pos : 0 < x → a < d
 small : x ≤ 15
theorem RnAt.one {l : List Nat} {a e x d : Nat} {rs : List Dfl.Rn} (h : RnAt l a e x d rs) (hd : d < e) : RnAt l a e x (d + 1) (rs ++ [⟨x, 0, 0⟩]) := by
 refine ⟨h.says.push (.inl ⟨h.small, rfl, rfl, ?_⟩), by have := h.lo; omega, hd, h.le, h.eq, fun _ => by have := h.lo; omega, h.small⟩;exact (Dfl.take_rep 1 d (fun j h1 h2 => h.eq j (by have := h.lo; omega) (by omega)) (by have := h.le; omega)).symm
theorem RnAt.eighteen {l : List Nat} {a e x d k : Nat} {rs : List Dfl.Rn} (h : RnAt l a e x d rs) (h0 : x = 0) (hk : 11 ≤ k) (hk2 : k ≤ 138) (hd : d + k ≤ e) : RnAt l a e x (d + k) (rs ++ [⟨18, k - 11, 7⟩]) := by
 subst h0;refine ⟨h.says.push (.inr (.inr (.inr ⟨rfl, rfl, by show k - 11 < 128; omega, ?_⟩))), by have := h.lo; omega, hd, h.le, h.eq, fun q => by omega, h.small⟩;rw [show 11 + (k - 11) = k by omega];exact (Dfl.take_rep k d (fun j h1 h2 => h.eq j (by have := h.lo; omega) (by omega)) (by have := h.le; omega)).symm
theorem RnAt.seventeen {l : List Nat} {a e x d k : Nat} {rs : List Dfl.Rn} (h : RnAt l a e x d rs) (h0 : x = 0) (hk : 3 ≤ k) (hk2 : k ≤ 10) (hd : d + k ≤ e) : RnAt l a e x (d + k) (rs ++ [⟨17, k - 3, 3⟩]) := by
 subst h0;refine ⟨h.says.push (.inr (.inr (.inl ⟨rfl, rfl, by show k - 3 < 8; omega, ?_⟩))), by have := h.lo; omega, hd, h.le, h.eq, fun q => by omega, h.small⟩;rw [show 3 + (k - 3) = k by omega];exact (Dfl.take_rep k d (fun j h1 h2 => h.eq j (by have := h.lo; omega) (by omega)) (by have := h.le; omega)).symm
theorem RnAt.sixteen {l : List Nat} {a e x d k : Nat} {rs : List Dfl.Rn} (h : RnAt l a e x d rs) (hx : 0 < x) (hk : 3 ≤ k) (hk2 : k ≤ 6) (hd : d + k ≤ e) : RnAt l a e x (d + k) (rs ++ [⟨16, k - 3, 2⟩]) := by
 have hp := h.pos hx;have hl := h.le;refine ⟨h.says.push (.inr (.inl ⟨rfl, rfl, by show k - 3 < 4; omega, ?_, ?_⟩)), by omega, hd, h.le, h.eq, fun q => by omega, h.small⟩
 ·intro e0;have := congrArg List.length e0;rw [List.length_take, List.length_nil] at this;omega
 ·rw [Dfl.take_last (by omega) (by omega), h.eq (d - 1) (by omega) (by omega), show 3 + (k - 3) = k by omega];exact (Dfl.take_rep k d (fun j h1 h2 => h.eq j (by omega) (by omega)) (by omega)).symm
set_option linter.unusedSimpArgs false in
set_option maxHeartbeats 8000000 in
theorem runs_any (x : Option Addr) (n cap : Nat) (l : List Nat) (w : World) (hl : l.length = n) (hx : Ints w x n (Inf.fn l)) (hn : n ≤ 1000) (hb : ∀ j, j < n → l.getD j 0 ≤ 15) :
  Calls Tryd.prog 94 #[.slice x n cap] w fun e w' => RunPost w l e w' := by
 have HI := Lib.hid hx;have HBD := Lib.hid hb;have HLn := Lib.hid hl;obtain ⟨j0, hj0, hj1, hj2, hj3⟩ := info_parts runinf;clear hx hb hl;go_enter Tryd.func94, Tryd.ntmps94
 go_wp2_with fail;go_loopw [3, 4] (fun ov iv wr => ∃ (a : Nat) (rs : List Dfl.Rn), iv = .int .i64 (a : Int) ∧ a ≤ n ∧ Hid (RR w wr ov rs) ∧ Hid (Dfl.Says [] rs (l.take a))) (fun _ iv _ => n - (intOf iv).toNat)
 case atStart => exact ⟨0, [], rfl, by omega, Lib.hid ⟨Ext.refl _, World.ownsRow_nil _ _ _ _⟩, Lib.hid (.nil _)⟩
 case round =>
  obtain ⟨a, rs, rfl, ha, HR, HS⟩ := hrel;by_cases hlt : a < n
  ·have t0 : decide ((a : Int) < (n : Int)) = true := decide_eq_true (by omega);obtain ⟨A, rfl⟩ : ∃ A, x = some A := by
    cases x with
    | none => have := HI.out.1 rfl; omega
    | some A => exact ⟨A, rfl⟩
   obtain ⟨y, hy⟩ : ∃ y, l.getD a 0 = y := ⟨_, rfl⟩;have hy15 : y ≤ 15 := by rw [← hy]; exact HBD.out a hlt
   have HY := Lib.hid hy;clear hy;have hai : (0 : Int) ≤ (a : Int) := by omega
   have hani : (a : Int) < (n : Int) := by omega
   go_upto_block 2 with fail;go_cut [5] (fun s5 wx => ∃ m : Nat, s5 = .int .i64 (m : Int) ∧ 1 ≤ m ∧ a + m ≤ n ∧ Hid (∀ j, a ≤ j → j < a + m → l.getD j 0 = y) ∧ Hid (RR w wx u3 rs))
   case first =>
    go_wp2_with fail;go_loopw [5] (fun s5 wx => ∃ m : Nat, s5 = .int .i64 (m : Int) ∧ 1 ≤ m ∧ a + m ≤ n ∧ Hid (∀ j, a ≤ j → j < a + m → l.getD j 0 = y) ∧ Hid (RR w wx u3 rs)) (fun s5 _ => n - (intOf s5).toNat)
    case atStart =>
     refine ⟨1, rfl, Nat.le_refl _, by omega, Lib.hid (fun j h1 h2 => ?_), HR⟩;have e1 : j = a := by omega
     rw [e1];exact HY.out
    case round =>
     clear HR;obtain ⟨m, rfl, hm1, hm2, HE, HR⟩ := hrel;obtain ⟨s, hs⟩ : ∃ s, a + m = s := ⟨_, rfl⟩;have es : (a : Int) + (m : Int) = (s : Int) := by omega
     have ws : IntKind.i64.wrap (s : Int) = (s : Int) := by rw [IntKind.wrap_i64]; omega
     have wm : IntKind.i64.wrap ((m : Int) + 1) = ((m + 1 : Nat) : Int) := by rw [IntKind.wrap_i64]; omega
     have HSe := Lib.hid hs;clear hs;by_cases hsn : s < n
     ·have t1 : decide ((s : Int) < (n : Int)) = true := decide_eq_true (by omega);have hsi : (0 : Int) ≤ (s : Int) := by omega
      have hsni : (s : Int) < (n : Int) := by omega
      obtain ⟨z, hz⟩ : ∃ z, l.getD s 0 = z := ⟨_, rfl⟩;have hcI := HI.out.ext HR.out.ext;have k0 : wr.cell? (A.add a) = some (.int .i64 (y : Int)) := by have := (hcI.2 A rfl a hlt).1; rw [this]; unfold Inf.fn; rw [HY.out]
      have k1 : wr.cell? (A.add s) = some (.int .i64 (z : Int)) := by have := (hcI.2 A rfl s hsn).1; rw [this]; unfold Inf.fn; rw [hz]
      have HZ := Lib.hid hz;have HR2 := Lib.hid HR.out.drew;clear hz hcI;by_cases hzy : z = y
      ·have t2 : ((z : Int) == (y : Int)) = true := beq_iff_eq.2 (by omega);have HE2 : Hid (∀ j, a ≤ j → j < a + (m + 1) → l.getD j 0 = y) := Lib.hid (fun j h1 h2 => by
        rcases Nat.lt_or_ge j (a + m) with q | q
        ·exact HE.out j h1 q
        ·have : j = s := by have := HSe.out; omega
         rw [this, HZ.out, hzy])
       clear hzy HR;go_wp2_with fail;refine wp_regionQ (by kernel_rfl) (by kernel_rfl) ?_;refine wpQ_yes (by kernel_rfl) (fun K hK => ?_);go_simp;refine hK _ ?_;clear hK K;refine wpQ_yes (by kernel_rfl) (fun K hK => ?_);go_simp;refine hK _ ?_;clear hK K;refine wpQ_yes (by kernel_rfl) (fun K hK => ?_);go_simp;refine hK _ ?_;clear hK K;refine wpQ_yes (by kernel_rfl) (fun K hK => ?_);go_simp;refine hK _ ?_;clear hK K;refine wpQ_yes (by kernel_rfl) (fun K hK => ?_);go_simp;refine hK _ ?_;clear hK K;refine wpQ_yes (by kernel_rfl) (fun K hK => ?_);go_simp;refine hK _ ?_;clear hK K;refine wpQ_yes (by kernel_rfl) (fun K hK => ?_);go_simp;refine hK _ ?_;clear hK K;refine wpQ_yes (by kernel_rfl) (fun K hK => ?_);go_simp;refine hK _ ?_;clear hK K;refine wpQ_yes (by kernel_rfl) (fun K hK => ?_);go_simp;refine hK _ ?_;clear hK K;refine wpQ_yes (by kernel_rfl) (fun K hK => ?_);go_simp;refine hK _ ?_;clear hK K;refine wpQ_yes (by kernel_rfl) (fun K hK => ?_);go_simp;refine hK _ ?_;clear hK K;refine wpQ_yes (by kernel_rfl) (fun K hK => ?_);go_simp;refine hK _ ?_;clear hK K;refine wpQ_yes (by kernel_rfl) (fun K hK => ?_);go_simp;refine hK _ ?_;clear hK K;refine wpQ_yes (by kernel_rfl) (fun K hK => ?_);go_simp;refine hK _ ?_;clear hK K;refine wpQ_yes (by kernel_rfl) (fun K hK => ?_);go_simp;refine hK _ ?_;clear hK K;refine wpQ_yes (by kernel_rfl) (fun K hK => ?_);go_simp;refine hK _ ?_;clear hK K;refine wpQ_yes (by kernel_rfl) (fun K hK => ?_);go_simp;refine hK _ ?_;clear hK K;refine wpQ_yes (by kernel_rfl) (fun K hK => ?_)
       go_simp;refine hK _ ?_;clear hK K;refine wpQ_yes (by kernel_rfl) (fun K hK => ?_);go_simp;refine hK _ ?_;clear hK K;refine wpQ_nil ?_;clear k0 k1;go_wp2_with fail;refine ⟨⟨m + 1, rfl, by omega, by have := HSe.out; omega, HE2, HR2⟩, by have := HSe.out; simp [intOf]; omega⟩
      ·have t2 : ((z : Int) == (y : Int)) = false := beq_eq_false_iff_ne.2 (by omega);clear hzy HR;go_wp2_with fail;refine wp_regionQ (by kernel_rfl) (by kernel_rfl) ?_;refine wpQ_yes (by kernel_rfl) (fun K hK => ?_);go_simp;refine hK _ ?_;clear hK K;refine wpQ_yes (by kernel_rfl) (fun K hK => ?_);go_simp;refine hK _ ?_;clear hK K;refine wpQ_yes (by kernel_rfl) (fun K hK => ?_);go_simp;refine hK _ ?_;clear hK K;refine wpQ_yes (by kernel_rfl) (fun K hK => ?_);go_simp;refine hK _ ?_;clear hK K;refine wpQ_yes (by kernel_rfl) (fun K hK => ?_);go_simp;refine hK _ ?_;clear hK K;refine wpQ_yes (by kernel_rfl) (fun K hK => ?_);go_simp;refine hK _ ?_;clear hK K;refine wpQ_yes (by kernel_rfl) (fun K hK => ?_);go_simp;refine hK _ ?_;clear hK K;refine wpQ_yes (by kernel_rfl) (fun K hK => ?_);go_simp;refine hK _ ?_;clear hK K;refine wpQ_yes (by kernel_rfl) (fun K hK => ?_);go_simp;refine hK _ ?_;clear hK K;refine wpQ_yes (by kernel_rfl) (fun K hK => ?_);go_simp;refine hK _ ?_;clear hK K;refine wpQ_yes (by kernel_rfl) (fun K hK => ?_);go_simp;refine hK _ ?_;clear hK K;refine wpQ_yes (by kernel_rfl) (fun K hK => ?_);go_simp;refine hK _ ?_;clear hK K;refine wpQ_yes (by kernel_rfl) (fun K hK => ?_);go_simp;refine hK _ ?_;clear hK K;refine wpQ_yes (by kernel_rfl) (fun K hK => ?_);go_simp;refine hK _ ?_;clear hK K;refine wpQ_yes (by kernel_rfl) (fun K hK => ?_);go_simp;refine hK _ ?_;clear hK K;refine wpQ_yes (by kernel_rfl) (fun K hK => ?_);go_simp;refine hK _ ?_;clear hK K;refine wpQ_yes (by kernel_rfl) (fun K hK => ?_)
       go_simp;refine hK _ ?_;clear hK K;refine wpQ_yes (by kernel_rfl) (fun K hK => ?_);go_simp;refine hK _ ?_;clear hK K;refine wpQ_yes (by kernel_rfl) (fun K hK => ?_);go_simp;refine hK _ ?_;clear hK K;refine wpQ_nil ?_;clear k0 k1;go_wp2_with fail;go_meet
       exact ⟨m, rfl, hm1, hm2, HE, HR2⟩
     ·have t1 : decide ((s : Int) < (n : Int)) = false := decide_eq_false (by omega);have HR2 := Lib.hid HR.out.drew;clear HR;go_wp2_with fail;refine wp_regionQ (by kernel_rfl) (by kernel_rfl) ?_;refine wpQ_yes (by kernel_rfl) (fun K hK => ?_);go_simp;refine hK _ ?_;clear hK K;refine wpQ_yes (by kernel_rfl) (fun K hK => ?_);go_simp;refine hK _ ?_;clear hK K;refine wpQ_yes (by kernel_rfl) (fun K hK => ?_);go_simp;refine hK _ ?_;clear hK K;refine wpQ_yes (by kernel_rfl) (fun K hK => ?_);go_simp;refine hK _ ?_;clear hK K;refine wpQ_yes (by kernel_rfl) (fun K hK => ?_);go_simp;refine hK _ ?_;clear hK K;refine wpQ_yes (by kernel_rfl) (fun K hK => ?_);go_simp;refine hK _ ?_;clear hK K;refine wpQ_yes (by kernel_rfl) (fun K hK => ?_);go_simp;refine hK _ ?_;clear hK K;refine wpQ_no (by kernel_rfl) ?_;(try simp only [Act.put, xa, xb, xc, xd, xe, xf]);refine wpQ_no (by kernel_rfl) ?_;(try simp only [Act.put, xa, xb, xc, xd, xe, xf]);refine wpQ_no (by kernel_rfl) ?_;(try simp only [Act.put, xa, xb, xc, xd, xe, xf]);refine wpQ_no (by kernel_rfl) ?_;(try simp only [Act.put, xa, xb, xc, xd, xe, xf]);refine wpQ_no (by kernel_rfl) ?_;(try simp only [Act.put, xa, xb, xc, xd, xe, xf]);refine wpQ_no (by kernel_rfl) ?_;(try simp only [Act.put, xa, xb, xc, xd, xe, xf]);refine wpQ_no (by kernel_rfl) ?_;(try simp only [Act.put, xa, xb, xc, xd, xe, xf]);refine wpQ_no (by kernel_rfl) ?_;(try simp only [Act.put, xa, xb, xc, xd, xe, xf]);refine wpQ_no (by kernel_rfl) ?_;try simp only [Act.put, xa, xb, xc, xd, xe, xf]
      refine wpQ_no (by kernel_rfl) ?_;(try simp only [Act.put, xa, xb, xc, xd, xe, xf]);refine wpQ_no (by kernel_rfl) ?_;(try simp only [Act.put, xa, xb, xc, xd, xe, xf]);refine wpQ_yes (by kernel_rfl) (fun K hK => ?_);go_simp;refine hK _ ?_;clear hK K;refine wpQ_nil ?_;go_wp2_with fail;go_meet
      exact ⟨m, rfl, hm1, hm2, HE, HR2⟩
   case rest =>
    clear HR;obtain ⟨m, rfl, hm1, hm2, HE, HR⟩ := hcut;obtain ⟨e, he⟩ : ∃ e, a + m = e := ⟨_, rfl⟩;have ee : (a : Int) + (m : Int) = (e : Int) := by omega
    have we : IntKind.i64.wrap (e : Int) = (e : Int) := by rw [IntKind.wrap_i64]; omega
    have wm1 : IntKind.i64.wrap ((m : Int) - 1) = ((m - 1 : Nat) : Int) := by rw [IntKind.wrap_i64]; omega
    have k0 : wc.cell? (A.add a) = some (.int .i64 (y : Int)) := by have := ((HI.out.ext HR.out.ext).2 A rfl a hlt).1; rw [this]; unfold Inf.fn; rw [HY.out]
    have HEe := Lib.hid he;have HRA : Hid (a < e ∧ e ≤ n ∧ ∀ j, a ≤ j → j < e → l.getD j 0 = y) := Lib.hid ⟨by omega, by omega, by rw [← he]; exact HE.out⟩;have HKB := Lib.hid (show rs.length ≤ 1000 from by have := HS.out.grow; rw [List.length_take] at this; simp at this; omega);clear he;go_upto_if 42 with fail
    go_cut [3, 5] (fun s3 s5 wx => ∃ (d r : Nat) (rs : List Dfl.Rn), s5 = .int .i64 (r : Int) ∧ d + r = e ∧ Hid (RnAt l a e y d rs) ∧ Hid (RR w wx s3 rs))
    case first =>
     clear k0;by_cases hy0 : 0 < y
     ·have t1 : decide ((0 : Int) < (y : Int)) = true := decide_eq_true (by omega);have HA : Hid (RnAt l a e y (a + 1) (rs ++ [⟨y, 0, 0⟩])) := Lib.hid (by
       obtain ⟨q1, q2, q3⟩ := HRA.out;refine ⟨HS.out.push (.inl ⟨hy15, rfl, rfl, ?_⟩), by omega, by omega, by rw [HLn.out]; omega, q3, fun _ => by omega, hy15⟩;exact (Dfl.take_rep 1 a (fun j h1 h2 => q3 j h1 (by omega)) (by rw [HLn.out]; omega)).symm)
      obtain ⟨K, hK⟩ : ∃ K, rs.length = K := ⟨_, rfl⟩;have HRL := Lib.hid (show wc.ownsRow w.heap.size 128 3 u3 K (rnV rs) from hK ▸ HR.out.row);have hKb : K ≤ 1000 := by rw [← hK]; exact HKB.out
      have hzc : w.heap.size ≤ wc.heap.size := HR.out.ext.size;go_wp2_with (at_builtin; refine wpList_append_own_at _ rfl _ _ 125 rfl w.heap.size 128 j0 (.agg #[.int .i64 0, .int .i64 0, .int .i64 0]) 3 24 Tryd.underlying125 hj0 hj1 hj2 hj3 rfl (by decide) _ _ _ rfl (HRL.out.alloc _) ⟨wc.heap.size, 0, none⟩ 1 1 [.int .i64 (y : Int), .int .i64 ((0 : Nat) : Int), .int .i64 ((0 : Nat) : Int)] rfl rfl ?d1 ?d2 ?d3 ?d4 ?d5 ?_)
      case d1 =>
       intro j u hu;rw [add_plain];exact (Bk.at (w := wc) rfl).cell j |>.trans (by simpa using hu)
      case d2 =>
       intro u hu;simp only [List.mem_cons, List.not_mem_nil, or_false] at hu;rcases hu with rfl | rfl | rfl <;> rfl
      case d3 => unfold maxLen; omega
      case d4 => omega
      case d5 => rw [World.size_alloc]; omega
      intro v4 w4 hown hgrow _ hat;have HN := Lib.hid (HR.out.push ⟨y, (0 : Nat), (0 : Nat)⟩ (by rw [hK]; exact hown) hgrow);clear hown hgrow hat HRL hzc;go_wp2_with fail;go_meet
      exact ⟨a + 1, m - 1, _, rfl, by have := HEe.out; omega, HA, HN⟩
     ·obtain rfl : y = 0 := by omega
      have t1 : decide ((0 : Int) < ((0 : Nat) : Int)) = false := by decide
      have HA : Hid (RnAt l a e 0 a rs) := Lib.hid ⟨HS.out, Nat.le_refl _, by have := HRA.out.1; omega, by rw [HLn.out]; exact HRA.out.2.1, HRA.out.2.2, fun q => by omega, by omega⟩;go_wp2_with fail;go_meet
      exact ⟨a, m, rs, rfl, by have := HEe.out; omega, HA, HR⟩
    case rest =>
     clear HR HS k0 wm1 HKB;obtain ⟨d, r, rs, rfl, hdr, HA, HR⟩ := hcut;have hen := HRA.out.2.1;go_wp2_with fail;go_loopw [3, 5] (fun s3 s5 wx => ∃ (d r : Nat) (rs : List Dfl.Rn), s5 = .int .i64 (r : Int) ∧ d + r = e ∧ Hid (RnAt l a e y d rs) ∧ Hid (RR w wx s3 rs)) (fun _ s5 _ => (intOf s5).toNat)
     case atStart => exact ⟨d, r, rs, rfl, hdr, HA, HR⟩
     case round =>
      clear HA HR hdr;obtain ⟨d, r, rs, rfl, hdr, HA, HR⟩ := hrel;have HKB := Lib.hid (show rs.length ≤ 1000 from by have := HA.out.says.grow; have := HA.out.hi; rw [List.length_take] at *; simp at *; omega);by_cases hr0 : 0 < r
      ·have t1 : decide ((0 : Int) < (r : Int)) = true := decide_eq_true (by omega);by_cases hy0 : y = 0
       ·have ty : ((y : Int) == 0) = true := beq_iff_eq.2 (by omega);have ti : decide ((0 : Int) < (y : Int)) = false := decide_eq_false (by omega);have n0 : ¬ 0 < y := by omega
        have HY0 := Lib.hid hy0;clear hy0;by_cases h11 : 11 ≤ r
        ·have tg : decide ((11 : Int) ≤ (r : Int)) = true := decide_eq_true (by omega);obtain ⟨k, hk⟩ : ∃ k, (if 138 < r then 138 else r) = k := ⟨_, rfl⟩;have hk1 : 11 ≤ k := by rw [← hk]; split <;> omega
         have hk2 : k ≤ 138 := by rw [← hk]; split <;> omega
         have hk3 : k ≤ r := by rw [← hk]; split <;> omega
         have hm1 : (if (138 : Int) < (r : Int) then (138 : Int) else (r : Int)) = (k : Int) := by rw [← hk]; split <;> split <;> omega
         have hm2 : (if (r : Int) < 138 then (r : Int) else 138) = (k : Int) := by rw [← hk]; split <;> split <;> omega
         clear hk;obtain ⟨q, hq⟩ : ∃ q, k - 11 = q := ⟨_, rfl⟩;have eq : (k : Int) - 11 = (q : Int) := by omega
         have wk : IntKind.i64.wrap (q : Int) = (q : Int) := by rw [IntKind.wrap_i64]; omega
         have wr2 : IntKind.i64.wrap ((r : Int) - (k : Int)) = ((r - k : Nat) : Int) := by rw [IntKind.wrap_i64]; omega
         have HA2 := Lib.hid (hq ▸ HA.out.eighteen HY0.out hk1 hk2 (by omega));obtain ⟨K, hK⟩ : ∃ K, rs.length = K := ⟨_, rfl⟩;have HRL := Lib.hid (show wr.ownsRow w.heap.size 128 3 u3 K (rnV rs) from hK ▸ HR.out.row);have hKb : K ≤ 1000 := by rw [← hK]; exact HKB.out
         have hzc : w.heap.size ≤ wr.heap.size := HR.out.ext.size;go_wp2_with (at_builtin; refine wpList_append_own_at _ rfl _ _ 125 rfl w.heap.size 128 j0 (.agg #[.int .i64 0, .int .i64 0, .int .i64 0]) 3 24 Tryd.underlying125 hj0 hj1 hj2 hj3 rfl (by decide) _ _ _ rfl (HRL.out.alloc _) ⟨wr.heap.size, 0, none⟩ 1 1 [.int .i64 (18 : Int), .int .i64 (q : Int), .int .i64 (7 : Int)] rfl rfl ?d1 ?d2 ?d3 ?d4 ?d5 ?_)
         case d1 =>
          intro j u hu;rw [add_plain];exact (Bk.at (w := wr) rfl).cell j |>.trans (by simpa using hu)
         case d2 =>
          intro u hu;simp only [List.mem_cons, List.not_mem_nil, or_false] at hu;rcases hu with rfl | rfl | rfl <;> rfl
         case d3 => unfold maxLen; omega
         case d4 => omega
         case d5 => rw [World.size_alloc]; omega
         intro v4 w4 hown hgrow _ hat;have HN := Lib.hid (HR.out.push ⟨18, q, 7⟩ (by rw [hK]; exact hown) hgrow);clear hown hgrow hat HRL hzc;go_wp2_with fail;go_roundw
         case rel => exact ⟨d + k, r - k, _, by go_num, by omega, HA2, HN⟩
         case measure => simp [intOf]; omega
        ·have tg : decide ((11 : Int) ≤ (r : Int)) = false := decide_eq_false (by omega);by_cases h3 : 3 ≤ r
         ·have th : decide ((3 : Int) ≤ (r : Int)) = true := decide_eq_true (by omega);obtain ⟨q, hq⟩ : ∃ q, r - 3 = q := ⟨_, rfl⟩;have eq : (r : Int) - 3 = (q : Int) := by omega
          have wk : IntKind.i64.wrap (q : Int) = (q : Int) := by rw [IntKind.wrap_i64]; omega
          have HA2 := Lib.hid (hq ▸ HA.out.seventeen HY0.out h3 (by omega) (by omega));obtain ⟨K, hK⟩ : ∃ K, rs.length = K := ⟨_, rfl⟩;have HRL := Lib.hid (show wr.ownsRow w.heap.size 128 3 u3 K (rnV rs) from hK ▸ HR.out.row);have hKb : K ≤ 1000 := by rw [← hK]; exact HKB.out
          have hzc : w.heap.size ≤ wr.heap.size := HR.out.ext.size;go_wp2_with (at_builtin; refine wpList_append_own_at _ rfl _ _ 125 rfl w.heap.size 128 j0 (.agg #[.int .i64 0, .int .i64 0, .int .i64 0]) 3 24 Tryd.underlying125 hj0 hj1 hj2 hj3 rfl (by decide) _ _ _ rfl (HRL.out.alloc _) ⟨wr.heap.size, 0, none⟩ 1 1 [.int .i64 (17 : Int), .int .i64 (q : Int), .int .i64 (3 : Int)] rfl rfl ?d1 ?d2 ?d3 ?d4 ?d5 ?_)
          case d1 =>
           intro j u hu;rw [add_plain];exact (Bk.at (w := wr) rfl).cell j |>.trans (by simpa using hu)
          case d2 =>
           intro u hu;simp only [List.mem_cons, List.not_mem_nil, or_false] at hu;rcases hu with rfl | rfl | rfl <;> rfl
          case d3 => unfold maxLen; omega
          case d4 => omega
          case d5 => rw [World.size_alloc]; omega
          intro v4 w4 hown hgrow _ hat;have HN := Lib.hid (HR.out.push ⟨17, q, 3⟩ (by rw [hK]; exact hown) hgrow);clear hown hgrow hat HRL hzc;go_wp2_with fail;go_roundw
          case rel => exact ⟨d + r, 0, _, by go_num, by omega, HA2, HN⟩
          case measure => simp [intOf]; omega
         ·have th : decide ((3 : Int) ≤ (r : Int)) = false := decide_eq_false (by omega);have wr2 : IntKind.i64.wrap ((r : Int) - 1) = ((r - 1 : Nat) : Int) := by rw [IntKind.wrap_i64]; omega
          have HA2 := Lib.hid (HA.out.one (by omega));obtain ⟨K, hK⟩ : ∃ K, rs.length = K := ⟨_, rfl⟩;have HRL := Lib.hid (show wr.ownsRow w.heap.size 128 3 u3 K (rnV rs) from hK ▸ HR.out.row);have hKb : K ≤ 1000 := by rw [← hK]; exact HKB.out
          have hzc : w.heap.size ≤ wr.heap.size := HR.out.ext.size;go_wp2_with (at_builtin; refine wpList_append_own_at _ rfl _ _ 125 rfl w.heap.size 128 j0 (.agg #[.int .i64 0, .int .i64 0, .int .i64 0]) 3 24 Tryd.underlying125 hj0 hj1 hj2 hj3 rfl (by decide) _ _ _ rfl (HRL.out.alloc _) ⟨wr.heap.size, 0, none⟩ 1 1 [.int .i64 (y : Int), .int .i64 ((0 : Nat) : Int), .int .i64 ((0 : Nat) : Int)] rfl rfl ?d1 ?d2 ?d3 ?d4 ?d5 ?_)
          case d1 =>
           intro j u hu;rw [add_plain];exact (Bk.at (w := wr) rfl).cell j |>.trans (by simpa using hu)
          case d2 =>
           intro u hu;simp only [List.mem_cons, List.not_mem_nil, or_false] at hu;rcases hu with rfl | rfl | rfl <;> rfl
          case d3 => unfold maxLen; omega
          case d4 => omega
          case d5 => rw [World.size_alloc]; omega
          intro v4 w4 hown hgrow _ hat;have HN := Lib.hid (HR.out.push ⟨y, (0 : Nat), (0 : Nat)⟩ (by rw [hK]; exact hown) hgrow);clear hown hgrow hat HRL hzc;go_wp2_with fail;go_roundw
          case rel => exact ⟨d + 1, r - 1, _, by go_num, by omega, HA2, HN⟩
          case measure => simp [intOf]; omega
       ·have ty : ((y : Int) == 0) = false := beq_eq_false_iff_ne.2 (by omega);have ti : decide ((0 : Int) < (y : Int)) = true := decide_eq_true (by omega);by_cases h3 : 3 ≤ r
        ·have tg : decide ((3 : Int) ≤ (r : Int)) = true := decide_eq_true (by omega);obtain ⟨k, hk⟩ : ∃ k, (if 6 < r then 6 else r) = k := ⟨_, rfl⟩;have hk1 : 3 ≤ k := by rw [← hk]; split <;> omega
         have hk2 : k ≤ 6 := by rw [← hk]; split <;> omega
         have hk3 : k ≤ r := by rw [← hk]; split <;> omega
         have hm1 : (if (6 : Int) < (r : Int) then (6 : Int) else (r : Int)) = (k : Int) := by rw [← hk]; split <;> split <;> omega
         have hm2 : (if (r : Int) < 6 then (r : Int) else 6) = (k : Int) := by rw [← hk]; split <;> split <;> omega
         clear hk;obtain ⟨q, hq⟩ : ∃ q, k - 3 = q := ⟨_, rfl⟩;have eq : (k : Int) - 3 = (q : Int) := by omega
         have wk : IntKind.i64.wrap (q : Int) = (q : Int) := by rw [IntKind.wrap_i64]; omega
         have wr2 : IntKind.i64.wrap ((r : Int) - (k : Int)) = ((r - k : Nat) : Int) := by rw [IntKind.wrap_i64]; omega
         have HA2 := Lib.hid (hq ▸ HA.out.sixteen (by omega) hk1 hk2 (by omega));obtain ⟨K, hK⟩ : ∃ K, rs.length = K := ⟨_, rfl⟩;have HRL := Lib.hid (show wr.ownsRow w.heap.size 128 3 u3 K (rnV rs) from hK ▸ HR.out.row);have hKb : K ≤ 1000 := by rw [← hK]; exact HKB.out
         have hzc : w.heap.size ≤ wr.heap.size := HR.out.ext.size;go_wp2_with (at_builtin; refine wpList_append_own_at _ rfl _ _ 125 rfl w.heap.size 128 j0 (.agg #[.int .i64 0, .int .i64 0, .int .i64 0]) 3 24 Tryd.underlying125 hj0 hj1 hj2 hj3 rfl (by decide) _ _ _ rfl (HRL.out.alloc _) ⟨wr.heap.size, 0, none⟩ 1 1 [.int .i64 (16 : Int), .int .i64 (q : Int), .int .i64 (2 : Int)] rfl rfl ?d1 ?d2 ?d3 ?d4 ?d5 ?_)
         case d1 =>
          intro j u hu;rw [add_plain];exact (Bk.at (w := wr) rfl).cell j |>.trans (by simpa using hu)
         case d2 =>
          intro u hu;simp only [List.mem_cons, List.not_mem_nil, or_false] at hu;rcases hu with rfl | rfl | rfl <;> rfl
         case d3 => unfold maxLen; omega
         case d4 => omega
         case d5 => rw [World.size_alloc]; omega
         intro v4 w4 hown hgrow _ hat;have HN := Lib.hid (HR.out.push ⟨16, q, 2⟩ (by rw [hK]; exact hown) hgrow);clear hown hgrow hat HRL hzc;go_wp2_with fail;go_roundw
         case rel => exact ⟨d + k, r - k, _, by go_num, by omega, HA2, HN⟩
         case measure => simp [intOf]; omega
        ·have tg : decide ((3 : Int) ≤ (r : Int)) = false := decide_eq_false (by omega);have wr2 : IntKind.i64.wrap ((r : Int) - 1) = ((r - 1 : Nat) : Int) := by rw [IntKind.wrap_i64]; omega
         have HA2 := Lib.hid (HA.out.one (by omega));obtain ⟨K, hK⟩ : ∃ K, rs.length = K := ⟨_, rfl⟩;have HRL := Lib.hid (show wr.ownsRow w.heap.size 128 3 u3 K (rnV rs) from hK ▸ HR.out.row);have hKb : K ≤ 1000 := by rw [← hK]; exact HKB.out
         have hzc : w.heap.size ≤ wr.heap.size := HR.out.ext.size;go_wp2_with (at_builtin; refine wpList_append_own_at _ rfl _ _ 125 rfl w.heap.size 128 j0 (.agg #[.int .i64 0, .int .i64 0, .int .i64 0]) 3 24 Tryd.underlying125 hj0 hj1 hj2 hj3 rfl (by decide) _ _ _ rfl (HRL.out.alloc _) ⟨wr.heap.size, 0, none⟩ 1 1 [.int .i64 (y : Int), .int .i64 ((0 : Nat) : Int), .int .i64 ((0 : Nat) : Int)] rfl rfl ?d1 ?d2 ?d3 ?d4 ?d5 ?_)
         case d1 =>
          intro j u hu;rw [add_plain];exact (Bk.at (w := wr) rfl).cell j |>.trans (by simpa using hu)
         case d2 =>
          intro u hu;simp only [List.mem_cons, List.not_mem_nil, or_false] at hu;rcases hu with rfl | rfl | rfl <;> rfl
         case d3 => unfold maxLen; omega
         case d4 => omega
         case d5 => rw [World.size_alloc]; omega
         intro v4 w4 hown hgrow _ hat;have HN := Lib.hid (HR.out.push ⟨y, (0 : Nat), (0 : Nat)⟩ (by rw [hK]; exact hown) hgrow);clear hown hgrow hat HRL hzc;go_wp2_with fail;go_roundw
         case rel => exact ⟨d + 1, r - 1, _, by go_num, by omega, HA2, HN⟩
         case measure => simp [intOf]; omega
      ·obtain rfl : r = 0 := by omega
       have t1 : decide ((0 : Int) < ((0 : Nat) : Int)) = false := rfl;have HS2 : Hid (Dfl.Says [] rs (l.take e)) := Lib.hid (by have q := HA.out.says; rw [show d = e by omega] at q; exact q);go_wp2_with fail;refine ⟨⟨e, rs, rfl, by omega, HR, HS2⟩, by have := HRA.out.1; simp [intOf]; omega⟩
  ·obtain rfl : a = n := by omega
   have t0 : decide ((a : Int) < (a : Int)) = false := decide_eq_false (by omega);have HS2 : Hid (Dfl.Says [] rs l) := Lib.hid (by have q := HS.out; rw [List.take_of_length_le (by rw [HLn.out]; exact Nat.le_refl _)] at q; exact q);go_wp2_with fail;go_ret;exact ⟨_, rs, rfl, HR.out, HS2.out⟩
end Go.Proofs.YtnhbjgmfbcedaaaDoor
namespace Go.Proofs.YtnhbjgmfbcedaaaDoor
open Go.RowKit
theorem numcat (l m : List UInt8) : Crc.num (l ++ m) = Crc.num l + Crc.num m * 2 ^ (8 * l.length) := by
  induction l with
  | nil => simp [Crc.num]
  | cons b l ih =>
    show b.toNat + 256 * Crc.num (l ++ m) = b.toNat + 256 * Crc.num l + _;rw [ih, List.length_cons, show 8 * (l.length + 1) = 8 * l.length + 8 by omega, Nat.pow_add, Nat.mul_add, ← Nat.add_assoc];congr 1
    rw [Nat.mul_comm 256, Nat.mul_assoc]
namespace Sto
/-- a stored block -/
def blk (last : Nat) (p : List UInt8) : List UInt8 := [UInt8.ofNat last, UInt8.ofNat (p.length % 256), UInt8.ofNat (p.length / 256), UInt8.ofNat (255 - p.length % 256), UInt8.ofNat (255 - p.length / 256)] ++ p
theorem blk_length (last : Nat) (p : List UInt8) : (blk last p).length = 5 + p.length := by simp [blk]; omega
/-- a text in stored blocks -/
def all : Nat → List UInt8 → List UInt8
  | 0, _ => []
  | k + 1, t => if t.length ≤ 65535 then blk 1 t else blk 0 (t.take 65535) ++ all k (t.drop 65535)
theorem all_last {k : Nat} {t : List UInt8} (h : t.length ≤ 65535) : all (k + 1) t = blk 1 t := by simp only [all, if_pos h]
theorem all_more {k : Nat} {t : List UInt8} (h : ¬ t.length ≤ 65535) : all (k + 1) t = blk 0 (t.take 65535) ++ all k (t.drop 65535) := by simp only [all, if_neg h]
theorem ofNat_toNat (n : Nat) (h : n < 256) : (UInt8.ofNat n).toNat = n := by rw [UInt8.toNat_ofNat', Nat.mod_eq_of_lt h]
theorem all_length : ∀ (k : Nat) (t : List UInt8), (all k t).length ≤ t.length + 5 * (t.length / 65535 + 1) := by
  intro k;induction k with
  | zero => intro t; simp [all]
  | succ k ih =>
    intro t;by_cases h : t.length ≤ 65535
    · rw [all_last h, blk_length]; omega
    · rw [all_more h, List.length_append, blk_length, List.length_take];have := ih (t.drop 65535);rw [List.length_drop] at this;omega
end Sto
end Go.Proofs.YtnhbjgmfbcedaaaDoor
namespace Go.Proofs.YtnhbjgmfbcedaaaDoor
open Go.RowKit
namespace Dfl
theorem Means.append {o o1 o2 : List UInt8} {ts us : List Tk} (h : Means o ts o1) (k : Means o1 us o2) : Means o (ts ++ us) o2 := by
 induction h with
 | nil o => exact k
 | lit h1 h2 h ih => exact .lit h1 h2 (ih k)
 | mat h0 h1 h2 h3 h4 h5 h ih => exact .mat h0 h1 h2 h3 h4 h5 (ih k)
theorem Means.ok {o o1 : List UInt8} {ts : List Tk} (h : Means o ts o1) : ∀ t ∈ ts, t.l = 0 ∨ (3 ≤ t.l ∧ t.l ≤ 258 ∧ 1 ≤ t.d ∧ t.d ≤ 32768) := by
 induction h with
 | nil o => intro t ht; cases ht
 | lit h1 h2 h ih =>
  intro t ht;rcases List.mem_cons.1 ht with rfl | q
  ·exact .inl h1
  ·exact ih t q
 | mat h0 h1 h2 h3 h4 h5 h ih =>
  intro t ht;rcases List.mem_cons.1 ht with rfl | q
  ·exact .inr ⟨h1, h2, h3, h4⟩
  ·exact ih t q
theorem Means.many {o o1 : List UInt8} {ts : List Tk} (h : Means o ts o1) : o.length + ts.length ≤ o1.length := by
 induction h with
 | nil o => simp
 | lit h1 h2 h ih => simp at ih ⊢; omega
 | mat h0 h1 h2 h3 h4 h5 h ih => rw [copyL_length] at ih; simp; omega
theorem means_exp {tk : Nat → Tk} : ∀ (n : Nat) (out : List UInt8), expL tk n = .ok out → Means [] ((List.range n).map tk) out
 | 0, out, h => by injection h with h; subst h; exact .nil _
 | n + 1, out, h => by
  simp only [expL] at h;split at h
  ·rename_i o1 h1;rw [List.range_succ, List.map_append];refine (means_exp n o1 h1).append ?_;show Means o1 [tk n] out;obtain ⟨t, ht⟩ : ∃ t, tk n = t := ⟨_, rfl⟩;rw [ht] at h ⊢;unfold stepX at h;split at h
   ·rename_i hl;split at h
    ·cases h
    ·injection h with h;subst h;exact .lit hl.1 hl.2 (.nil _)
   ·rename_i hl;split at h
    ·cases h
    ·rename_i hb;split at h
     ·cases h
     ·injection h with h;subst h;unfold badP at hb;have h0 : t.b = 0 := by
       rcases Classical.em (t.b = 0) with q | q
       ·exact q
       ·exact absurd (Or.inl q) hb
      have hb2 := fun q => hb (Or.inr q);exact .mat h0 (by omega) (by omega) (by omega) (by omega) (by omega) (.nil _)
  ·cases h
theorem plc_l {t : Tk} (h1 : 3 ≤ t.l) (h2 : t.l ≤ 258) : plc Inf.lensL t.l.toNat < 29 := (plc_lens (by omega) (by omega)).1
theorem plc_d {t : Tk} (h1 : 1 ≤ t.d) (h2 : t.d ≤ 32768) : plc Inf.distsL t.d.toNat < 30 := (plc_dists (by omega) (by omega)).1
theorem tokB_pos {f g : Nat → Int} {len gen : Nat} {t : Tk} (h : Uses f len g gen t) : 1 ≤ (tokB f len g gen t).length := by
 have hw : ∀ k, 1 ≤ f k → 1 ≤ (wordB f len k).length := by intro k hk; unfold wordB; rw [Bts.high_length]; omega
 unfold tokB;split
 ·rename_i h0; exact hw _ (h.1 h0).2.1
 ·rename_i h0; rw [List.length_append]; have := hw _ (h.2 h0).1.2.1; omega
theorem toksB_len {f g : Nat → Int} {len gen : Nat} : ∀ {ts : List Tk}, (∀ t ∈ ts, Uses f len g gen t) → ts.length ≤ (toksB f len g gen ts).length
 | [], _ => Nat.zero_le _
 | t :: ts, h => by
  have h1 := toksB_len (fun x hx => h x (List.mem_cons_of_mem _ hx));have h2 := tokB_pos (h t (List.mem_cons_self ..));have e : toksB f len g gen (t :: ts) = tokB f len g gen t ++ toksB f len g gen ts := by simp [toksB]
  rw [e, List.length_append, List.length_cons];omega
theorem at_text {l post : List UInt8} {B : List Bool} (h1 : l.length = (B.length + 7) / 8) (h2 : Crc.num l = Bts.val B) : At (l ++ post) 0 B := by
 refine ⟨by rw [List.length_append]; omega, ?_⟩;rw [Nat.pow_zero, Nat.div_one, numcat, h2];have q := Bts.val_lt B;obtain ⟨d, hd⟩ : ∃ d, 8 * l.length = B.length + d := ⟨8 * l.length - B.length, by omega⟩;rw [hd, Nat.pow_add, ← Nat.mul_assoc, Nat.mul_right_comm, Nat.add_mul_mod_self_right, Nat.mod_eq_of_lt q]
end Dfl
end Go.Proofs.YtnhbjgmfbcedaaaDoor
namespace Go.Proofs.YtnhbjgmfbcedaaaDoor
open Go.RowKit
theorem many_congr {f g : Nat → Int} {n : Nat} : ∀ {len : Nat}, (∀ j, j < len → f j = g j) → many f n len = many g n len
 | 0, _ => rfl
 | len + 1, h => by
  simp only [many];rw [many_congr (fun j hj => h j (by omega)), h len (by omega)]
theorem first_congr {f g : Nat → Int} {len : Nat} (h : ∀ j, j < len → f j = g j) : ∀ n, first f len n = first g len n
 | 0 => rfl
 | 1 => rfl
 | n + 2 => by simp only [first]; rw [first_congr h (n + 1), many_congr h]
theorem word_congr {f g : Nat → Int} {len k : Nat} (h : ∀ j, j < len → f j = g j) (hk : k < len) : word f len k = word g len k := by
 unfold word;rw [h k hk, first_congr h, many_congr (fun j hj => h j (by omega))]
theorem kraft_congr {f g : Nat → Int} {len : Nat} (h : ∀ j, j < len → f j = g j) : ∀ n, kraft f len n = kraft g len n
 | 0 => rfl
 | n + 1 => by simp only [kraft]; rw [kraft_congr h n, many_congr h]
theorem complete_congr {f g : Nat → Int} {len : Nat} (h : ∀ j, j < len → f j = g j) (hc : complete f len) : complete g len := by
 unfold complete at *;rw [← many_congr h, ← many_congr h, ← kraft_congr h];exact hc
theorem good_congr {f g : Nat → Int} {len : Nat} (h : ∀ j, j < len → f j = g j) (hc : Inf.good f len) : Inf.good g len :=
 ⟨⟨hc.1.1, fun j hj => by rw [← h j hj]; exact hc.1.2 j hj⟩, complete_congr h hc.2⟩
/-- a code whose last lengths are 0 -/
theorem many_cut {f : Nat → Int} {n m : Nat} (hn : 1 ≤ n) : ∀ {d : Nat}, (∀ j, m ≤ j → j < m + d → f j = 0) → many f n (m + d) = many f n m
 | 0, _ => rfl
 | d + 1, h => by
  rw [← Nat.add_assoc];simp only [many];rw [many_cut hn (fun j h1 h2 => h j h1 (by omega)), h (m + d) (by omega) (by omega), if_neg (by omega)];rfl
theorem many_cut0 {f : Nat → Int} {m : Nat} : ∀ {d : Nat}, (∀ j, m ≤ j → j < m + d → f j = 0) → many f 0 (m + d) = many f 0 m + d
 | 0, _ => rfl
 | d + 1, h => by
  rw [← Nat.add_assoc];simp only [many];rw [many_cut0 (fun j h1 h2 => h j h1 (by omega)), h (m + d) (by omega) (by omega), if_pos (by rfl)];omega
theorem first_cut {f : Nat → Int} {m d : Nat} (h : ∀ j, m ≤ j → j < m + d → f j = 0) : ∀ n, first f (m + d) n = first f m n
 | 0 => rfl
 | 1 => rfl
 | n + 2 => by simp only [first]; rw [first_cut h (n + 1), many_cut (by omega) h]
theorem word_cut {f : Nat → Int} {m d : Nat} (h : ∀ j, m ≤ j → j < m + d → f j = 0) (k : Nat) : word f (m + d) k = word f m k := by
 unfold word;rw [first_cut h]
theorem kraft_cut {f : Nat → Int} {m d : Nat} (h : ∀ j, m ≤ j → j < m + d → f j = 0) : ∀ n, kraft f (m + d) n = kraft f m n
 | 0 => rfl
 | n + 1 => by simp only [kraft]; rw [kraft_cut h n, many_cut (by omega) h]
theorem good_cut {f : Nat → Int} {m d : Nat} (h : ∀ j, m ≤ j → j < m + d → f j = 0) (hg : Inf.good f (m + d)) : Inf.good f m := by
 refine ⟨⟨by have := hg.1.1; omega, fun j hj => hg.1.2 j (by omega)⟩, ?_⟩;have hc := hg.2;unfold complete at *;rw [many_cut0 h, many_cut (by decide) h, kraft_cut h] at hc;rcases hc with q | ⟨q1, q2⟩ | q
 ·exact .inl (by omega)
 ·exact .inr (.inl ⟨by omega, q2⟩)
 ·exact .inr (.inr q)
namespace Dfl
theorem wordB_congr {f g : Nat → Int} {len k : Nat} (h : ∀ j, j < len → f j = g j) (hk : k < len) : wordB f len k = wordB g len k := by
 unfold wordB; rw [word_congr h hk, h k hk]
theorem wordB_cut {f : Nat → Int} {m d : Nat} (h : ∀ j, m ≤ j → j < m + d → f j = 0) (k : Nat) : wordB f (m + d) k = wordB f m k := by
 unfold wordB; rw [word_cut h]
/-- a row's numbers -/
def rowN (f : Nat → Int) (m : Nat) : List Nat := (List.range m).map fun j => (f j).toNat
theorem rowN_length (f : Nat → Int) (m : Nat) : (rowN f m).length = m := by simp [rowN]
theorem fn_rowN {f : Nat → Int} {m : Nat} (h : ∀ j, j < m → 0 ≤ f j) : ∀ j, j < m → Inf.fn (rowN f m) j = f j := by
 intro j hj;unfold Inf.fn rowN;rw [List.getD, List.getElem?_map, List.getElem?_range hj];have := h j hj;simp;omega
def smallB (h : Nat → Int) (few : Nat) : List Bool := ((List.range few).map fun i => Bts.low (h (Inf.orderL.getD i 0)).toNat 3).flatten
theorem smallB_len (h : Nat → Int) (few : Nat) : (smallB h few).length = 3 * few := by
 induction few with
 | zero => rfl
 | succ n ih =>
  have e : smallB h (n + 1) = smallB h n ++ Bts.low (h (Inf.orderL.getD n 0)).toNat 3 := by simp [smallB, List.range_succ]
  rw [e, List.length_append, ih, Bts.low_length];omega
/-- what the small code's lengths are, i of them read -/
def part (h : Nat → Int) (i : Nat) : Nat → Int := fun j => if (List.range i).any (fun t => Inf.orderL.getD t 0 = j) then h j else 0
theorem part_succ (h : Nat → Int) (i : Nat) : Inf.upd (part h i) (Inf.orderL.getD i 0) (h (Inf.orderL.getD i 0)) = part h (i + 1) := by
 funext j
 unfold Inf.upd part;rw [List.range_succ, List.any_append];by_cases e : j = Inf.orderL.getD i 0
 ·rw [if_pos e, if_pos (by simp [e]), e]
 ·rw [if_neg e];have : (List.any [i] fun t => decide (Inf.orderL.getD t 0 = j)) = false := by simpa using fun q => e (Eq.symm q)
  rw [this, Bool.or_false]
theorem smalls_read {L : List UInt8} {h : Nat → Int} (hh : ∀ j, j < 19 → 0 ≤ h j ∧ h j ≤ 7) : ∀ (r i a : Nat) (C : List Bool), i + r ≤ 19 →
  At L a (((List.range r).map fun t => Bts.low (h (Inf.orderL.getD (i + t) 0)).toNat 3).flatten ++ C) → Inf.smalls L r i a (part h i) = .ok (part h (i + r), a + 3 * r)
 | 0, i, a, C, _, _ => rfl
 | r + 1, i, a, C, hi, hA => by
  have ho : ∀ i, i < 19 → Inf.orderL.getD i 0 < 19 := by decide
  have hb := hh _ (ho i (by omega));rw [List.range_succ_eq_map, List.map_cons, List.flatten_cons, List.append_assoc, Nat.add_zero, List.map_map] at hA;have g1 := hA.left.get (by omega);have A2 := hA.right;rw [Bts.low_length] at A2;have e : ((fun t => Bts.low (h (Inf.orderL.getD (i + t) 0)).toNat 3) ∘ Nat.succ) = fun t => Bts.low (h (Inf.orderL.getD (i + 1 + t) 0)).toNat 3 := by
   funext t
   show Bts.low (h (Inf.orderL.getD (i + (t + 1)) 0)).toNat 3 = _;rw [show i + (t + 1) = i + 1 + t by omega]
  rw [e] at A2;have ih := smalls_read hh r (i + 1) (a + 3) C (by omega) A2;simp only [Inf.smalls, g1];rw [show (((h (Inf.orderL.getD i 0)).toNat : Nat) : Int) = h (Inf.orderL.getD i 0) by omega, part_succ, ih];congr 2
  ·congr 1; omega
  ·omega
theorem part_few {h : Nat → Int} {few : Nat} (hf : few ≤ 19) (hz : ∀ i, few ≤ i → i < 19 → h (Inf.orderL.getD i 0) = 0) : ∀ j, j < 19 → part h few j = h j := by
 intro j hj;unfold part;have hs : ∀ j, j < 19 → ∃ i, i < 19 ∧ Inf.orderL.getD i 0 = j := by decide
 obtain ⟨i, hi, e⟩ := hs j hj;split
 ·rfl
 ·rename_i hn;rcases Nat.lt_or_ge i few with q | q
  ·exact absurd (List.any_eq_true.2 ⟨i, List.mem_range.2 q, by simpa using e⟩) hn
  ·have := hz i q hi;rw [e] at this;exact this.symm
/-- the head of a dynamic block -/
def headB (many far few : Nat) (h : Nat → Int) (rs : List Rn) : List Bool :=
 Bts.low (many - 257) 5 ++ (Bts.low (far - 1) 5 ++ (Bts.low (few - 4) 4 ++ (smallB h few ++ runsB h rs)))
theorem dyn_read {L : List UInt8} {a : Nat} {f g h : Nat → Int} {many far few : Nat} {rs : List Rn} {C : List Bool}
  (hm : 257 ≤ many ∧ many ≤ 286) (hr : 1 ≤ far ∧ far ≤ 30) (hw : 4 ≤ few ∧ few ≤ 19) (hf : Inf.good f many) (hg : Inf.good g far) (hh : Inf.good h 19) (h7 : ∀ j, j < 19 → h j ≤ 7)
  (hz : ∀ i, few ≤ i → i < 19 → h (Inf.orderL.getD i 0) = 0) (hS : Says [] rs (rowN f many ++ rowN g far)) (hu : ∀ r ∈ rs, 1 ≤ h r.s) (h256 : f 256 ≠ 0)
  (hA : At L a (headB many far few h rs ++ C)) : Inf.dyn L a = .ok (rowN f many, rowN g far, a + (headB many far few h rs).length) := by
 have hl : (headB many far few h rs).length = 5 + (5 + (4 + (3 * few + (runsB h rs).length))) := by
  unfold headB;simp only [List.length_append, Bts.low_length, smallB_len]
 unfold headB at hA;simp only [List.append_assoc] at hA;have g1 := hA.left.get (by omega);have A1 := hA.right;have g2 := A1.left.get (by omega);have A2 := A1.right;have g3 := A2.left.get (by omega);have A3 := A2.right;rw [Bts.low_length] at A1 g2 A2 g3 A3;rw [Bts.low_length] at A2 g3 A3;rw [Bts.low_length] at A3;have e0 : smallB h few = ((List.range few).map fun t => Bts.low (h (Inf.orderL.getD (0 + t) 0)).toNat 3).flatten := by
  unfold smallB;congr 2
  funext t
  rw [Nat.zero_add]
 have A4 := A3.right;rw [smallB_len] at A4;rw [e0] at A3;have hsm := smalls_read (fun j hj => ⟨(hh.1.2 j hj).1, h7 j hj⟩) few 0 _ _ (by omega) A3;rw [Nat.zero_add] at hsm;have hp0 : part h 0 = fun _ => 0 := by funext j; rfl
 rw [hp0] at hsm;have hpf := part_few hw.2 hz;have hgood := good_congr (fun j hj => (hpf j hj).symm) hh;have hbd := hS.bd;have hrb : runsB (part h few) rs = runsB h rs := by
  unfold runsB;congr 1
  refine List.map_congr_left (fun r hr => ?_);unfold runB;rw [wordB_congr hpf (hbd r hr).1]
 rw [← hrb] at A4;have hlen : rs.length ≤ (rowN f many ++ rowN g far).length := by have := hS.grow; simpa using this
 have hrow : (rowN f many ++ rowN g far).length = many + far := by rw [List.length_append, rowN_length, rowN_length]
 have hread := runs_read hgood.2 hS (many + far + 1) _ _ (fun r hr => ⟨by rw [hpf _ (hbd r hr).1]; exact hu r hr, by rw [hpf _ (hbd r hr).1]; have := h7 _ (hbd r hr).1; omega⟩) (by omega) A4;rw [hrow] at hread;have q1 : (rowN f many ++ rowN g far).take many = rowN f many := by rw [List.take_append_of_le_length (by rw [rowN_length]; exact Nat.le_refl _), List.take_of_length_le (by rw [rowN_length]; exact Nat.le_refl _)]
 have q2 : (rowN f many ++ rowN g far).drop many = rowN g far := by rw [List.drop_append_of_le_length (by rw [rowN_length]; exact Nat.le_refl _), List.drop_eq_nil_of_le (by rw [rowN_length]; exact Nat.le_refl _), List.nil_append]
 have n1 : Inf.good (Inf.fn (rowN f many)) many := good_congr (fun j hj => (fn_rowN (fun j hj => (hf.1.2 j hj).1) j hj).symm) hf;have n2 : Inf.good (Inf.fn (rowN g far)) far := good_congr (fun j hj => (fn_rowN (fun j hj => (hg.1.2 j hj).1) j hj).symm) hg;have n3 : (rowN f many ++ rowN g far).getD 256 0 ≠ 0 := by
  rw [List.getD, List.getElem?_append_left (by rw [rowN_length]; omega)];unfold rowN;rw [List.getElem?_map, List.getElem?_range (by omega)];have := (hf.1.2 256 (by omega)).1;simp;omega
 unfold Inf.dyn;rw [g1]; simp only [];rw [g2]; simp only [];rw [g3]; simp only [];rw [show many - 257 + 257 = many by omega, show far - 1 + 1 = far by omega, show few - 4 + 4 = few by omega, if_neg (by omega), hsm];simp only [];rw [if_neg (fun q => q hgood), hread];simp only [];rw [q1, q2, if_neg (fun q => q n1), if_neg (fun q => q n2), if_neg n3, hl];congr 3
 rw [hrb];omega
end Dfl
end Go.Proofs.YtnhbjgmfbcedaaaDoor
