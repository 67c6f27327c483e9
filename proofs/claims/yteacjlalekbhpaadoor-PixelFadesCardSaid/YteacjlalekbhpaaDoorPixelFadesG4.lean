/-
  The document's MixOf.
  A pixel as a text: the document's digits, PixelText.
  The world of a region that draws its order, under a name. No function of the program is named.
  The document's PixelText.
  pixel.Text.
  The document's digitOf.
  The digits of 16 in a text, and the pixel that eight of them spell.
-/
import Derived.Test.YteacjlalekbhpaaDoorPixelFadesG3
import Derived.Test.YteacjlalekbhpaaDoorPixelFadesG2
import Derived.Deep.LoopGhost
import Derived.Deep.DeepCutAuto
import Derived.Deep.CutBlock
import Derived.Test.YteacjlalekbhpaaDoorPixelFadesG1
import Derived.Deep.RegionHeld3
import Derived.RegionTactic
import Derived.Deep.AppendLies
import Derived.Maps.AppendAt
namespace Go.Proofs.YteacjlalekbhpaaDoor
open Go.RowKit
set_option linter.unusedSimpArgs false
set_option maxRecDepth 100000
theorem i64info : (Tryd.prog.info? 3).map (fun i => (i.zero, i.size, i.bytes)) = some (some (.int .i64 0), 1, 8) := by kernel_rfl
theorem sum_cov (px : Nat → P4) (n : Nat) (h : ∀ i, i < n → (px i).Ok) : ∀ k, k ≤ n → sumC (fun p => p.r) px k ≤ 255 * sumA px k ∧ sumC (fun p => p.g) px k ≤ 255 * sumA px k ∧ sumC (fun p => p.b) px k ≤ 255 * sumA px k := by
  intro k
  induction k with
  | zero => intro _; simp [sumA, sumC]
  | succ k ih =>
    intro hk
    have ih := ih (by omega)
    have ok := h k (by omega)
    have m : ∀ c : Int, 0 ≤ c → c ≤ 255 → (px k).a * c ≤ 255 * (px k).a := fun c _ h2 => by
      rw [Int.mul_comm 255]; exact Int.mul_le_mul_of_nonneg_left h2 ok.a.1
    have h1 := m _ ok.r.1 ok.r.2
    have h2 := m _ ok.g.1 ok.g.2
    have h3 := m _ ok.b.1 ok.b.2
    simp only [sumA, sumC]
    omega
set_option linter.unusedSimpArgs false in
set_option maxHeartbeats 4000000 in
theorem mixOf_any (x : Option Addr) (n cap : Nat) (px : Nat → P4) (w : World) (hP : Pxs w x n px) (hn : n ≤ 100) :
    Calls Tryd.prog 27 #[.slice x n cap] w fun e w' => e = .returned (mixV px n) ∧ Ext w w' := by
  have HP := Lib.hid hP
  have HOk : Hid (∀ i, i < n → (px i).Ok) := Lib.hid (fun i hi => by obtain ⟨a, ha⟩ := hP.isSome hi; exact (hP.2 a ha i hi).2.2.2.2)
  obtain ⟨B, hB⟩ : ∃ B, w.heap.size = B := ⟨_, rfl⟩
  have HBB := Lib.hid hB
  have hmk := fun w => run_make_row' (P := Tryd.prog) 65 3 (.int .i64 0) 8 Tryd.underlying65 i64info rfl .i64 .i64 4 (by omega) (by omega) w
  simp only [show ((4 : Nat) : Int) = 4 from rfl] at hmk
  clear hP
  go_enter Tryd.func27, Tryd.ntmps27
  go_upto_block 0 with fail
  clear hmk
  refine wp_world (fun wz => Hid (Ext w wz) ∧ Hid (Bk wz B #[.int .u8 0, .int .u8 0, .int .u8 0, .int .u8 0]) ∧ Hid (Bk wz (B + 1) #[.int .i64 (0), .int .i64 (0), .int .i64 (0), .int .i64 (0)])) ⟨Lib.hid (((Ext.refl w).alloc _).alloc _), Lib.hid (Bk.old (Bk.at hB)), Lib.hid ?_⟩ ?_
  · rw [show (#[.int .i64 (0), .int .i64 (0), .int .i64 (0), .int .i64 (0)] : Array Value) = madeCells #[Value.int .i64 0] 4 from by rw [made_eq]; unfold cellsI; rfl]
    exact Bk.at (by simp [hB])
  (try rw [hB])
  clear hB
  rintro w1 ⟨HX, HR, HS⟩
  go_wp2_with fail
  go_loopw [4] (fun c wr => ∃ k : Nat, k ≤ n ∧ c = .int .i64 (k : Int) ∧ Hid (Ext w wr) ∧ Hid (Bk wr B #[.int .u8 0, .int .u8 0, .int .u8 0, .int .u8 0]) ∧ Hid (Bk wr (B + 1) #[.int .i64 (sumC (fun p => p.r) px k), .int .i64 (sumC (fun p => p.g) px k), .int .i64 (sumC (fun p => p.b) px k), .int .i64 (sumA px k)])) (fun c _ => n - (intOf c).toNat)
  case atStart => exact ⟨0, by omega, rfl, HX, HR, HS⟩
  case round =>
    clear HX HR HS
    obtain ⟨k, hk, rfl, HX, HR, HS⟩ := hrel
    by_cases hlt : k < n
    · obtain ⟨a, ha⟩ := HP.out.isSome hlt
      subst ha
      have okk := HOk.out k hlt
      obtain ⟨q, hq⟩ : ∃ q, px k = q := ⟨_, rfl⟩
      have HPk : Hid (∀ wz, Ext w wz → wz.cell? (a.add (k * 4)) = some (.int .u8 q.r) ∧ wz.cell? ⟨(a.add (k * 4)).block, (a.add (k * 4)).off + 1, none⟩ = some (.int .u8 q.g) ∧ wz.cell? ⟨(a.add (k * 4)).block, (a.add (k * 4)).off + 2, none⟩ = some (.int .u8 q.b) ∧ wz.cell? ⟨(a.add (k * 4)).block, (a.add (k * 4)).off + 3, none⟩ = some (.int .u8 q.a)) := Lib.hid (fun wz hx => by obtain ⟨c0, c1, c2, c3, _⟩ := (HP.out.ext hx).2 a rfl k hlt; rw [hq] at c0 c1 c2 c3; exact ⟨c0, c1, c2, c3⟩)
      rw [hq] at okk
      have ok := okk
      have hbk := sum_bd px n HOk.out k hk
      obtain ⟨Sr, hSr⟩ : ∃ z, sumC (fun p => p.r) px k = z := ⟨_, rfl⟩
      obtain ⟨Pr, hPr⟩ : ∃ z, q.a * q.r = z := ⟨_, rfl⟩
      have hpr := Pix.mul_bd ok.a.1 ok.a.2 ok.r.1 ok.r.2
      rw [hPr] at hpr
      have HSr : Hid (sumC (fun p => p.r) px (k + 1) = Sr + Pr) := Lib.hid (by show sumC (fun p => p.r) px k + (px k).a * (px k).r = _; rw [hSr, hq, hPr])
      obtain ⟨Sg, hSg⟩ : ∃ z, sumC (fun p => p.g) px k = z := ⟨_, rfl⟩
      obtain ⟨Pg, hPg⟩ : ∃ z, q.a * q.g = z := ⟨_, rfl⟩
      have hpg := Pix.mul_bd ok.a.1 ok.a.2 ok.g.1 ok.g.2
      rw [hPg] at hpg
      have HSg : Hid (sumC (fun p => p.g) px (k + 1) = Sg + Pg) := Lib.hid (by show sumC (fun p => p.g) px k + (px k).a * (px k).g = _; rw [hSg, hq, hPg])
      obtain ⟨Sb, hSb⟩ : ∃ z, sumC (fun p => p.b) px k = z := ⟨_, rfl⟩
      obtain ⟨Pb, hPb⟩ : ∃ z, q.a * q.b = z := ⟨_, rfl⟩
      have hpb := Pix.mul_bd ok.a.1 ok.a.2 ok.b.1 ok.b.2
      rw [hPb] at hpb
      have HSb : Hid (sumC (fun p => p.b) px (k + 1) = Sb + Pb) := Lib.hid (by show sumC (fun p => p.b) px k + (px k).a * (px k).b = _; rw [hSb, hq, hPb])
      obtain ⟨Sa, hSa⟩ : ∃ z, sumA px k = z := ⟨_, rfl⟩
      have HSa : Hid (sumA px (k + 1) = Sa + q.a) := Lib.hid (by show sumA px k + (px k).a = _; rw [hSa, hq])
      rw [hSr, hSg, hSb, hSa] at hbk HS
      have hn100 : n ≤ 100 := hn
      have w1r : ∀ z, z = q.r → IntKind.i64.wrap z = z := by rintro _ rfl; have h := ok.r.1; have h2 := ok.r.2; rw [IntKind.wrap_i64]; omega
      have w2r : ∀ z, z = Pr → IntKind.i64.wrap z = z := by rintro _ rfl; rw [IntKind.wrap_i64]; omega
      have w3r : ∀ z, z = Sr + Pr → IntKind.i64.wrap z = z := by rintro _ rfl; rw [IntKind.wrap_i64]; omega
      have w1g : ∀ z, z = q.g → IntKind.i64.wrap z = z := by rintro _ rfl; have h := ok.g.1; have h2 := ok.g.2; rw [IntKind.wrap_i64]; omega
      have w2g : ∀ z, z = Pg → IntKind.i64.wrap z = z := by rintro _ rfl; rw [IntKind.wrap_i64]; omega
      have w3g : ∀ z, z = Sg + Pg → IntKind.i64.wrap z = z := by rintro _ rfl; rw [IntKind.wrap_i64]; omega
      have w1b : ∀ z, z = q.b → IntKind.i64.wrap z = z := by rintro _ rfl; have h := ok.b.1; have h2 := ok.b.2; rw [IntKind.wrap_i64]; omega
      have w2b : ∀ z, z = Pb → IntKind.i64.wrap z = z := by rintro _ rfl; rw [IntKind.wrap_i64]; omega
      have w3b : ∀ z, z = Sb + Pb → IntKind.i64.wrap z = z := by rintro _ rfl; rw [IntKind.wrap_i64]; omega
      have w1a : ∀ z, z = q.a → IntKind.i64.wrap z = z := by rintro _ rfl; have h := ok.a.1; have h2 := ok.a.2; rw [IntKind.wrap_i64]; omega
      have w3a : ∀ z, z = Sa + q.a → IntKind.i64.wrap z = z := by rintro _ rfl; have h := ok.a.1; have h2 := ok.a.2; rw [IntKind.wrap_i64]; omega
      have wk : ∀ z, z = (k : Int) + 1 → IntKind.i64.wrap z = z := by rintro _ rfl; rw [IntKind.wrap_i64]; omega
      have t0 : decide ((k : Int) < (n : Int)) = true := decide_eq_true (by omega)
      have hk0 : (0 : Int) ≤ (k : Int) := by omega
      have hkI : (k : Int) < (n : Int) := by omega
      clear hSr hSg hSb hSa hpr hpg hpb hbk hq ok okk
      have c3 := (HPk.out wr HX.out).2.2.2
      go_wp2_with fail
      clear c3
      have c0 : wr.drew.cell? (a.add (k * 4)) = some (.int .u8 q.r) := (HPk.out wr HX.out).1
      have s0 : wr.drew.cell? ⟨B + 1, 0, none⟩ = some (.int .i64 (Sr)) := HS.out.cell 0
      refine wp_region_tailQ 14 (by kernel_rfl) (by kernel_rfl) ?_
      simp only [List.take_succ_cons, List.take_zero, List.drop_succ_cons, List.drop_zero]
      refine wpQ_yes (by kernel_rfl) (fun K hK => ?_)
      go_simp
      refine hK _ ?_
      clear hK K
      refine wpQ_yes (by kernel_rfl) (fun K hK => ?_)
      go_simp
      refine hK _ ?_
      clear hK K
      refine wpQ_yes (by kernel_rfl) (fun K hK => ?_)
      go_simp
      refine hK _ ?_
      clear hK K
      refine wpQ_yes (by kernel_rfl) (fun K hK => ?_)
      go_simp
      refine hK _ ?_
      clear hK K
      refine wpQ_yes (by kernel_rfl) (fun K hK => ?_)
      go_simp
      refine hK _ ?_
      clear hK K
      refine wpQ_yes (by kernel_rfl) (fun K hK => ?_)
      go_simp
      refine hK _ ?_
      clear hK K
      refine wpQ_yes (by kernel_rfl) (fun K hK => ?_)
      go_simp
      refine hK _ ?_
      clear hK K
      refine wpQ_yes (by kernel_rfl) (fun K hK => ?_)
      go_simp
      refine hK _ ?_
      clear hK K
      refine wpQ_yes (by kernel_rfl) (fun K hK => ?_)
      go_simp
      refine hK _ ?_
      clear hK K
      refine wpQ_yes (by kernel_rfl) (fun K hK => ?_)
      go_simp
      refine hK _ ?_
      clear hK K
      refine wpQ_yes (by kernel_rfl) (fun K hK => ?_)
      go_simp
      refine hK _ ?_
      clear hK K
      refine wpQ_yes (by kernel_rfl) (fun K hK => ?_)
      go_simp
      refine hK _ ?_
      clear hK K
      refine wpQ_yes (by kernel_rfl) (fun K hK => ?_)
      go_simp
      refine hK _ ?_
      clear hK K
      refine wpQ_yes (by kernel_rfl) (fun K hK => ?_)
      go_simp
      refine hK _ ?_
      clear hK K
      refine wpQ_nil ?_
      clear c0 s0
      have HXd : Hid (Ext w wr.drew) := Lib.hid (Below.drew HX.out)
      have HRd := Lib.hid HR.out.drew
      have HSd := Lib.hid HS.out.drew
      clear HX HR HS
      generalize wr.drew = wd at HXd HRd HSd ⊢
      have s1 := HSd.out.cell 0
      have f1 := HSd.out.frozen 0
      go_upto_region 7 with fail
      clear s1 f1
      refine wp_world (fun wz => Hid (Ext w wz) ∧ Hid (Bk wz B #[.int .u8 0, .int .u8 0, .int .u8 0, .int .u8 0]) ∧ Hid (Bk wz (B + 1) #[.int .i64 (Sr + Pr), .int .i64 (Sg), .int .i64 (Sb), .int .i64 (Sa)])) ⟨Lib.hid (Below.setCell HXd.out (by show w.heap.size ≤ B + 1; rw [HBB.out]; omega) _), Lib.hid (HRd.out.far (by show B ≠ B + 1; omega) _), Lib.hid (by have h := HSd.out.set_ 0 (.int .i64 (Sr + Pr)); simpa using h)⟩ ?_
      clear HXd HRd HSd
      rintro w_r ⟨HX, HR, HS⟩
      have c0 : w_r.drew.cell? ⟨(a.add (k * 4)).block, (a.add (k * 4)).off + 1, none⟩ = some (.int .u8 q.g) := (HPk.out w_r HX.out).2.1
      have s0 : w_r.drew.cell? ⟨B + 1, 1, none⟩ = some (.int .i64 (Sg)) := HS.out.cell 1
      refine wp_region_tailQ 14 (by kernel_rfl) (by kernel_rfl) ?_
      simp only [List.take_succ_cons, List.take_zero, List.drop_succ_cons, List.drop_zero]
      refine wpQ_yes (by kernel_rfl) (fun K hK => ?_)
      go_simp
      refine hK _ ?_
      clear hK K
      refine wpQ_yes (by kernel_rfl) (fun K hK => ?_)
      go_simp
      refine hK _ ?_
      clear hK K
      refine wpQ_yes (by kernel_rfl) (fun K hK => ?_)
      go_simp
      refine hK _ ?_
      clear hK K
      refine wpQ_yes (by kernel_rfl) (fun K hK => ?_)
      go_simp
      refine hK _ ?_
      clear hK K
      refine wpQ_yes (by kernel_rfl) (fun K hK => ?_)
      go_simp
      refine hK _ ?_
      clear hK K
      refine wpQ_yes (by kernel_rfl) (fun K hK => ?_)
      go_simp
      refine hK _ ?_
      clear hK K
      refine wpQ_yes (by kernel_rfl) (fun K hK => ?_)
      go_simp
      refine hK _ ?_
      clear hK K
      refine wpQ_yes (by kernel_rfl) (fun K hK => ?_)
      go_simp
      refine hK _ ?_
      clear hK K
      refine wpQ_yes (by kernel_rfl) (fun K hK => ?_)
      go_simp
      refine hK _ ?_
      clear hK K
      refine wpQ_yes (by kernel_rfl) (fun K hK => ?_)
      go_simp
      refine hK _ ?_
      clear hK K
      refine wpQ_yes (by kernel_rfl) (fun K hK => ?_)
      go_simp
      refine hK _ ?_
      clear hK K
      refine wpQ_yes (by kernel_rfl) (fun K hK => ?_)
      go_simp
      refine hK _ ?_
      clear hK K
      refine wpQ_yes (by kernel_rfl) (fun K hK => ?_)
      go_simp
      refine hK _ ?_
      clear hK K
      refine wpQ_yes (by kernel_rfl) (fun K hK => ?_)
      go_simp
      refine hK _ ?_
      clear hK K
      refine wpQ_nil ?_
      clear c0 s0
      have HXd : Hid (Ext w w_r.drew) := Lib.hid (Below.drew HX.out)
      have HRd := Lib.hid HR.out.drew
      have HSd := Lib.hid HS.out.drew
      clear HX HR HS
      generalize w_r.drew = wd at HXd HRd HSd ⊢
      have s1 := HSd.out.cell 1
      have f1 := HSd.out.frozen 1
      go_upto_region 8 with fail
      clear s1 f1
      refine wp_world (fun wz => Hid (Ext w wz) ∧ Hid (Bk wz B #[.int .u8 0, .int .u8 0, .int .u8 0, .int .u8 0]) ∧ Hid (Bk wz (B + 1) #[.int .i64 (Sr + Pr), .int .i64 (Sg + Pg), .int .i64 (Sb), .int .i64 (Sa)])) ⟨Lib.hid (Below.setCell HXd.out (by show w.heap.size ≤ B + 1; rw [HBB.out]; omega) _), Lib.hid (HRd.out.far (by show B ≠ B + 1; omega) _), Lib.hid (by have h := HSd.out.set_ 1 (.int .i64 (Sg + Pg)); simpa using h)⟩ ?_
      clear HXd HRd HSd
      rintro w_g ⟨HX, HR, HS⟩
      have c0 : w_g.drew.cell? ⟨(a.add (k * 4)).block, (a.add (k * 4)).off + 2, none⟩ = some (.int .u8 q.b) := (HPk.out w_g HX.out).2.2.1
      have s0 : w_g.drew.cell? ⟨B + 1, 2, none⟩ = some (.int .i64 (Sb)) := HS.out.cell 2
      refine wp_region_tailQ 14 (by kernel_rfl) (by kernel_rfl) ?_
      simp only [List.take_succ_cons, List.take_zero, List.drop_succ_cons, List.drop_zero]
      refine wpQ_yes (by kernel_rfl) (fun K hK => ?_)
      go_simp
      refine hK _ ?_
      clear hK K
      refine wpQ_yes (by kernel_rfl) (fun K hK => ?_)
      go_simp
      refine hK _ ?_
      clear hK K
      refine wpQ_yes (by kernel_rfl) (fun K hK => ?_)
      go_simp
      refine hK _ ?_
      clear hK K
      refine wpQ_yes (by kernel_rfl) (fun K hK => ?_)
      go_simp
      refine hK _ ?_
      clear hK K
      refine wpQ_yes (by kernel_rfl) (fun K hK => ?_)
      go_simp
      refine hK _ ?_
      clear hK K
      refine wpQ_yes (by kernel_rfl) (fun K hK => ?_)
      go_simp
      refine hK _ ?_
      clear hK K
      refine wpQ_yes (by kernel_rfl) (fun K hK => ?_)
      go_simp
      refine hK _ ?_
      clear hK K
      refine wpQ_yes (by kernel_rfl) (fun K hK => ?_)
      go_simp
      refine hK _ ?_
      clear hK K
      refine wpQ_yes (by kernel_rfl) (fun K hK => ?_)
      go_simp
      refine hK _ ?_
      clear hK K
      refine wpQ_yes (by kernel_rfl) (fun K hK => ?_)
      go_simp
      refine hK _ ?_
      clear hK K
      refine wpQ_yes (by kernel_rfl) (fun K hK => ?_)
      go_simp
      refine hK _ ?_
      clear hK K
      refine wpQ_yes (by kernel_rfl) (fun K hK => ?_)
      go_simp
      refine hK _ ?_
      clear hK K
      refine wpQ_yes (by kernel_rfl) (fun K hK => ?_)
      go_simp
      refine hK _ ?_
      clear hK K
      refine wpQ_yes (by kernel_rfl) (fun K hK => ?_)
      go_simp
      refine hK _ ?_
      clear hK K
      refine wpQ_nil ?_
      clear c0 s0
      have HXd : Hid (Ext w w_g.drew) := Lib.hid (Below.drew HX.out)
      have HRd := Lib.hid HR.out.drew
      have HSd := Lib.hid HS.out.drew
      clear HX HR HS
      generalize w_g.drew = wd at HXd HRd HSd ⊢
      have s1 := HSd.out.cell 2
      have f1 := HSd.out.frozen 2
      go_upto_region 9 with fail
      clear s1 f1
      refine wp_world (fun wz => Hid (Ext w wz) ∧ Hid (Bk wz B #[.int .u8 0, .int .u8 0, .int .u8 0, .int .u8 0]) ∧ Hid (Bk wz (B + 1) #[.int .i64 (Sr + Pr), .int .i64 (Sg + Pg), .int .i64 (Sb + Pb), .int .i64 (Sa)])) ⟨Lib.hid (Below.setCell HXd.out (by show w.heap.size ≤ B + 1; rw [HBB.out]; omega) _), Lib.hid (HRd.out.far (by show B ≠ B + 1; omega) _), Lib.hid (by have h := HSd.out.set_ 2 (.int .i64 (Sb + Pb)); simpa using h)⟩ ?_
      clear HXd HRd HSd
      rintro w_b ⟨HX, HR, HS⟩
      have s1 := HS.out.cell 3
      have f1 := HS.out.frozen 3
      have HXd := HX
      have HRd := HR
      have HSd := HS
      clear HX HR HS
      go_upto_region 4 with fail
      clear s1 f1
      refine wp_world (fun wz => Hid (Ext w wz) ∧ Hid (Bk wz B #[.int .u8 0, .int .u8 0, .int .u8 0, .int .u8 0]) ∧ Hid (Bk wz (B + 1) #[.int .i64 (Sr + Pr), .int .i64 (Sg + Pg), .int .i64 (Sb + Pb), .int .i64 (Sa + q.a)])) ⟨Lib.hid (Below.setCell HXd.out (by show w.heap.size ≤ B + 1; rw [HBB.out]; omega) _), Lib.hid (HRd.out.far (by show B ≠ B + 1; omega) _), Lib.hid (by have h := HSd.out.set_ 3 (.int .i64 (Sa + q.a)); simpa using h)⟩ ?_
      clear HXd HRd HSd
      rintro w_a ⟨HX, HR, HS⟩
      go_wp2_with fail
      go_roundw
      case rel => exact ⟨k + 1, by omega, by go_num, HX, HR, Lib.hid (by rw [HSr.out, HSg.out, HSb.out, HSa.out]; exact HS.out)⟩
      case measure => simp [intOf]; omega
    · obtain rfl : k = n := by omega
      have hbk := sum_bd px k HOk.out k (Nat.le_refl _)
      have t0 : decide ((k : Int) < (k : Int)) = false := decide_eq_false (by omega)
      have HM : Hid (mixV px k = if sumA px k = 0 then pixv 0 0 0 0 else pixv (Pix.rnd (sumC (fun p => p.r) px k) (sumA px k)) (Pix.rnd (sumC (fun p => p.g) px k) (sumA px k)) (Pix.rnd (sumC (fun p => p.b) px k) (sumA px k)) (Pix.rnd (sumA px k) (k : Int))) := Lib.hid rfl
      have hcv := sum_cov px k HOk.out k (Nat.le_refl _)
      obtain ⟨Sr, hSr⟩ : ∃ z, sumC (fun p => p.r) px k = z := ⟨_, rfl⟩
      obtain ⟨Sg, hSg⟩ : ∃ z, sumC (fun p => p.g) px k = z := ⟨_, rfl⟩
      obtain ⟨Sb, hSb⟩ : ∃ z, sumC (fun p => p.b) px k = z := ⟨_, rfl⟩
      obtain ⟨Sa, hSa⟩ : ∃ z, sumA px k = z := ⟨_, rfl⟩
      rw [hSr, hSg, hSb, hSa] at hbk HM HS hcv
      have k0 := HR.out.cell 0
      have k1 := HR.out.cell 1
      have k2 := HR.out.cell 2
      have k3 := HR.out.cell 3
      have f0 := HR.out.frozen 0
      have f1 := HR.out.frozen 1
      have f2 := HR.out.frozen 2
      have f3 := HR.out.frozen 3
      have s0 := HS.out.cell 0
      have s1 := HS.out.cell 1
      have s2 := HS.out.cell 2
      have s3 := HS.out.cell 3
      by_cases h0 : Sa = 0
      · have t1 : (Sa == 0) = true := beq_iff_eq.2 h0
        have HQ := Lib.hid h0
        clear h0 hbk hSr hSg hSb hSa hcv
        go_wp2_with fail
        refine bodyPost_ret (v := _) (by simp [results, Tryd.results27, go_sem, k0, k1, k2, k3]; rfl) rfl ⟨by rw [HM.out, if_pos HQ.out], ?_⟩
        repeat (first | exact HX.out | refine Below.setCell ?_ (by rw [HBB.out]; exact Nat.le_refl _) _ | apply below_drewN | refine Ext.alloc ?_ _)
      · have t1 : (Sa == 0) = false := beq_eq_false_iff_ne.2 h0
        have HQ := Lib.hid h0
        have hk1 : 1 ≤ k := by omega
        obtain ⟨qr, hqr⟩ : ∃ z, (2 * Sr + Sa) / (2 * Sa) = z := ⟨_, rfl⟩
        have hrr := Pix.rnd_of_le (n := Sr) (of := Sa) (B := 255) (by omega) (by omega) (by omega) (by omega)
        rw [hqr] at hrr
        have br : 0 ≤ qr := by rw [← hqr]; exact Int.ediv_nonneg (by omega) (by omega)
        have Rr := Lib.hid (fun w => still_of (rounded_any Sr Sa w (by omega) (by omega) (by omega) (by omega)))
        rw [hqr] at Rr
        have wqr : ∀ z, z = qr → IntKind.u8.wrap z = z := by rintro _ rfl; rw [IntKind.wrap_u8']; omega
        have mqr : qr % 256 = qr := by omega
        have HRr := Lib.hid hrr.1
        obtain ⟨qg, hqg⟩ : ∃ z, (2 * Sg + Sa) / (2 * Sa) = z := ⟨_, rfl⟩
        have hrg := Pix.rnd_of_le (n := Sg) (of := Sa) (B := 255) (by omega) (by omega) (by omega) (by omega)
        rw [hqg] at hrg
        have bg : 0 ≤ qg := by rw [← hqg]; exact Int.ediv_nonneg (by omega) (by omega)
        have Rg := Lib.hid (fun w => still_of (rounded_any Sg Sa w (by omega) (by omega) (by omega) (by omega)))
        rw [hqg] at Rg
        have wqg : ∀ z, z = qg → IntKind.u8.wrap z = z := by rintro _ rfl; rw [IntKind.wrap_u8']; omega
        have mqg : qg % 256 = qg := by omega
        have HRg := Lib.hid hrg.1
        obtain ⟨qb, hqb⟩ : ∃ z, (2 * Sb + Sa) / (2 * Sa) = z := ⟨_, rfl⟩
        have hrb := Pix.rnd_of_le (n := Sb) (of := Sa) (B := 255) (by omega) (by omega) (by omega) (by omega)
        rw [hqb] at hrb
        have bb : 0 ≤ qb := by rw [← hqb]; exact Int.ediv_nonneg (by omega) (by omega)
        have Rb := Lib.hid (fun w => still_of (rounded_any Sb Sa w (by omega) (by omega) (by omega) (by omega)))
        rw [hqb] at Rb
        have wqb : ∀ z, z = qb → IntKind.u8.wrap z = z := by rintro _ rfl; rw [IntKind.wrap_u8']; omega
        have mqb : qb % 256 = qb := by omega
        have HRb := Lib.hid hrb.1
        obtain ⟨qa, hqa⟩ : ∃ z, (2 * Sa + (k : Int)) / (2 * (k : Int)) = z := ⟨_, rfl⟩
        have hra := Pix.rnd_of_le (n := Sa) (of := (k : Int)) (B := 255) (by omega) (by omega) (by omega) (by omega)
        rw [hqa] at hra
        have ba : 0 ≤ qa := by rw [← hqa]; exact Int.ediv_nonneg (by omega) (by omega)
        have Ra := Lib.hid (fun w => still_of (rounded_any Sa (k : Int) w (by omega) (by omega) (by omega) (by omega)))
        rw [hqa] at Ra
        have wqa : ∀ z, z = qa → IntKind.u8.wrap z = z := by rintro _ rfl; rw [IntKind.wrap_u8']; omega
        have mqa : qa % 256 = qa := by omega
        have HRa := Lib.hid hra.1
        clear h0 hbk hSr hSg hSb hSa hcv hqr hqg hqb hqa hrr hrg hrb hra br bg bb ba
        go_wp2_with fail
        have d0 : wr.drew.cell? ⟨B + 1, 0, none⟩ = some (.int .i64 Sr) := s0
        have d1 : wr.drew.cell? ⟨B + 1, 1, none⟩ = some (.int .i64 Sg) := s1
        have d2 : wr.drew.cell? ⟨B + 1, 2, none⟩ = some (.int .i64 Sb) := s2
        refine wp_region_tailQ 24 (by kernel_rfl) (by kernel_rfl) ?_
        simp only [List.take_succ_cons, List.take_zero, List.drop_succ_cons, List.drop_zero]
        refine wpQ_yes (by kernel_rfl) (fun K hK => ?_)
        go_simp
        refine hK _ ?_
        clear hK K
        refine wpQ_yes (by kernel_rfl) (fun K hK => ?_)
        go_simp
        refine hK _ ?_
        clear hK K
        refine wpQ_yes (by kernel_rfl) (fun K hK => ?_)
        go_simp
        refine hK _ ?_
        clear hK K
        refine wpQ_yes (by kernel_rfl) (fun K hK => ?_)
        go_simp
        refine hK _ ?_
        clear hK K
        refine wpQ_yes (by kernel_rfl) (fun K hK => ?_)
        go_simp
        refine ⟨_, Rr.out _, hK _ ?_⟩
        clear hK K
        refine wpQ_yes (by kernel_rfl) (fun K hK => ?_)
        go_simp
        refine hK _ ?_
        clear hK K
        refine wpQ_yes (by kernel_rfl) (fun K hK => ?_)
        go_simp
        refine hK _ ?_
        clear hK K
        refine wpQ_yes (by kernel_rfl) (fun K hK => ?_)
        go_simp
        refine hK _ ?_
        clear hK K
        refine wpQ_yes (by kernel_rfl) (fun K hK => ?_)
        go_simp
        refine hK _ ?_
        clear hK K
        refine wpQ_yes (by kernel_rfl) (fun K hK => ?_)
        go_simp
        refine hK _ ?_
        clear hK K
        refine wpQ_yes (by kernel_rfl) (fun K hK => ?_)
        go_simp
        refine ⟨_, Rg.out _, hK _ ?_⟩
        clear hK K
        refine wpQ_yes (by kernel_rfl) (fun K hK => ?_)
        go_simp
        refine hK _ ?_
        clear hK K
        refine wpQ_yes (by kernel_rfl) (fun K hK => ?_)
        go_simp
        refine hK _ ?_
        clear hK K
        refine wpQ_yes (by kernel_rfl) (fun K hK => ?_)
        go_simp
        refine hK _ ?_
        clear hK K
        refine wpQ_yes (by kernel_rfl) (fun K hK => ?_)
        go_simp
        refine hK _ ?_
        clear hK K
        refine wpQ_yes (by kernel_rfl) (fun K hK => ?_)
        go_simp
        refine hK _ ?_
        clear hK K
        refine wpQ_yes (by kernel_rfl) (fun K hK => ?_)
        go_simp
        refine ⟨_, Rb.out _, hK _ ?_⟩
        clear hK K
        refine wpQ_yes (by kernel_rfl) (fun K hK => ?_)
        go_simp
        refine hK _ ?_
        clear hK K
        refine wpQ_yes (by kernel_rfl) (fun K hK => ?_)
        go_simp
        refine hK _ ?_
        clear hK K
        refine wpQ_yes (by kernel_rfl) (fun K hK => ?_)
        go_simp
        refine hK _ ?_
        clear hK K
        refine wpQ_yes (by kernel_rfl) (fun K hK => ?_)
        go_simp
        refine hK _ ?_
        clear hK K
        refine wpQ_yes (by kernel_rfl) (fun K hK => ?_)
        go_simp
        refine ⟨_, Ra.out _, hK _ ?_⟩
        clear hK K
        refine wpQ_yes (by kernel_rfl) (fun K hK => ?_)
        go_simp
        refine hK _ ?_
        clear hK K
        refine wpQ_yes (by kernel_rfl) (fun K hK => ?_)
        go_simp
        refine hK _ ?_
        clear hK K
        refine wpQ_nil ?_
        have HXd : Hid (Ext w wr.drew) := Lib.hid (Below.drew HX.out)
        have HRd := Lib.hid HR.out.drew
        clear d0 d1 d2 HX HR HS k0 k1 k2 k3 f0 f1 f2 f3 s0 s1 s2 s3
        generalize wr.drew = wd at HXd HRd ⊢
        have HX := HXd
        have k0 := HRd.out.cell 0
        have k1 := HRd.out.cell 1
        have k2 := HRd.out.cell 2
        have k3 := HRd.out.cell 3
        have f0 := HRd.out.frozen 0
        have f1 := HRd.out.frozen 1
        have f2 := HRd.out.frozen 2
        have f3 := HRd.out.frozen 3
        go_wp2_with fail
        refine bodyPost_ret (v := _) (by simp [results, Tryd.results27, go_sem, k0, k1, k2, k3]; rfl) rfl ⟨by rw [HM.out, if_neg HQ.out, HRr.out, HRg.out, HRb.out, HRa.out], ?_⟩
        repeat (first | exact HX.out | refine Below.setCell ?_ (by rw [HBB.out]; exact Nat.le_refl _) _ | apply below_drewN | refine Ext.alloc ?_ _)
end Go.Proofs.YteacjlalekbhpaaDoor
namespace Go.Proofs.YteacjlalekbhpaaDoor
open Go.RowKit
set_option linter.unusedSimpArgs false
set_option maxRecDepth 100000
/-- the digits of 16 -/
def hexS : ByteArray := ⟨#[48, 49, 50, 51, 52, 53, 54, 55, 56, 57, 97, 98, 99, 100, 101, 102]⟩
def hexB (n : Nat) : UInt8 := if n < 10 then UInt8.ofNat (48 + n) else UInt8.ofNat (87 + n)
theorem hex_cut : ∀ q, q < 16 → hexS.extract q (q + 1) = ⟨#[hexB q]⟩ := by decide +kernel
theorem digits_any (c : Nat) (hc : c < 256) (w : World) :
    Calls Tryd.prog 43 #[.int .u8 (c : Int)] w fun e w' => e = .returned (.string (⟨#[hexB (c / 16)]⟩ ++ ⟨#[hexB (c % 16)]⟩)) ∧ Ext w w' := by
  obtain ⟨q, hq⟩ : ∃ q, c / 16 = q := ⟨_, rfl⟩
  obtain ⟨r, hr⟩ : ∃ r, c % 16 = r := ⟨_, rfl⟩
  have hq1 : q < 16 := by omega
  have hr1 : r < 16 := by omega
  have h1 := hex_cut q hq1
  have h2 := hex_cut r hr1
  unfold hexS at h1 h2
  obtain ⟨X, hX⟩ : ∃ X : ByteArray, ⟨#[hexB q]⟩ = X := ⟨_, rfl⟩
  obtain ⟨Y, hY⟩ : ∃ Y : ByteArray, ⟨#[hexB r]⟩ = Y := ⟨_, rfl⟩
  have sX : X.size ≤ 1 := by rw [← hX]; exact Nat.le_refl 1
  have sY : Y.size ≤ 1 := by rw [← hY]; exact Nat.le_refl 1
  rw [hX] at h1
  rw [hY] at h2
  rw [hq, hr, hX, hY]
  have hs : ¬ 9223372036854775807 < X.size + Y.size := by omega
  have m1 : (c : Int) / 16 = (q : Int) := by omega
  have m2 : (c : Int).tmod 16 = (r : Int) := by rw [Int.tmod_eq_emod_of_nonneg (by omega)]; omega
  have wq : ∀ z, z = (q : Int) → IntKind.u8.wrap z = z := by rintro _ rfl; rw [IntKind.wrap_u8']; omega
  have wr : ∀ z, z = (r : Int) → IntKind.u8.wrap z = z := by rintro _ rfl; rw [IntKind.wrap_u8']; omega
  have wq1 : ∀ z, z = (q : Int) + 1 → IntKind.u8.wrap z = z := by rintro _ rfl; rw [IntKind.wrap_u8']; omega
  have wr1 : ∀ z, z = (r : Int) + 1 → IntKind.u8.wrap z = z := by rintro _ rfl; rw [IntKind.wrap_u8']; omega
  have b1 : (0 : Int) ≤ (q : Int) := by omega
  have b2 : (q : Int) ≤ (q : Int) + 1 := by omega
  have b3 : (q : Int) + 1 ≤ 16 := by omega
  have b4 : (0 : Int) ≤ (r : Int) := by omega
  have b5 : (r : Int) ≤ (r : Int) + 1 := by omega
  have b6 : (r : Int) + 1 ≤ 16 := by omega
  have b7 : ((q : Int) + 1).toNat = q + 1 := by omega
  have b8 : ((r : Int) + 1).toNat = r + 1 := by omega
  have e1 : (c : Int) % 256 = (c : Int) := by omega
  clear hq hr hX hY sX sY
  go_enter Tryd.func43, Tryd.ntmps43
  go_wp2_with fail
  refine wp_regionQ (by kernel_rfl) (by kernel_rfl) ?_
  refine wpQ_yes (by kernel_rfl) (fun K hK => ?_)
  go_simp
  refine hK _ ?_
  clear hK K
  refine wpQ_yes (by kernel_rfl) (fun K hK => ?_)
  go_simp
  refine hK _ ?_
  clear hK K
  refine wpQ_yes (by kernel_rfl) (fun K hK => ?_)
  go_simp
  refine hK _ ?_
  clear hK K
  refine wpQ_yes (by kernel_rfl) (fun K hK => ?_)
  go_simp
  refine hK _ ?_
  clear hK K
  refine wpQ_yes (by kernel_rfl) (fun K hK => ?_)
  go_simp
  refine hK _ ?_
  clear hK K
  refine wpQ_yes (by kernel_rfl) (fun K hK => ?_)
  go_simp
  refine hK _ ?_
  clear hK K
  refine wpQ_yes (by kernel_rfl) (fun K hK => ?_)
  go_simp
  refine hK _ ?_
  clear hK K
  refine wpQ_yes (by kernel_rfl) (fun K hK => ?_)
  go_simp
  refine hK _ ?_
  clear hK K
  refine wpQ_yes (by kernel_rfl) (fun K hK => ?_)
  go_simp
  refine hK _ ?_
  clear hK K
  refine wpQ_yes (by kernel_rfl) (fun K hK => ?_)
  go_simp
  refine hK _ ?_
  clear hK K
  refine wpQ_yes (by kernel_rfl) (fun K hK => ?_)
  go_simp
  refine hK _ ?_
  clear hK K
  refine wpQ_yes (by kernel_rfl) (fun K hK => ?_)
  go_simp
  refine hK _ ?_
  clear hK K
  refine wpQ_yes (by kernel_rfl) (fun K hK => ?_)
  go_simp
  refine hK _ ?_
  clear hK K
  refine wpQ_yes (by kernel_rfl) (fun K hK => ?_)
  go_simp
  refine hK _ ?_
  clear hK K
  refine wpQ_yes (by kernel_rfl) (fun K hK => ?_)
  go_simp
  refine hK _ ?_
  clear hK K
  refine wpQ_yes (by kernel_rfl) (fun K hK => ?_)
  go_simp
  refine hK _ ?_
  clear hK K
  refine wpQ_nil ?_
  go_wp2_with fail
  go_ret
  exact ⟨rfl, Below.drew (Ext.refl _)⟩
def dig (c : Nat) : ByteArray := ⟨#[hexB (c / 16)]⟩ ++ ⟨#[hexB (c % 16)]⟩
theorem dig_size (c : Nat) : (dig c).size = 2 := rfl
def textS (r g b a : Nat) : ByteArray := dig r ++ dig g ++ dig b ++ dig a
end Go.Proofs.YteacjlalekbhpaaDoor
namespace Go.Proofs.YteacjlalekbhpaaDoor
open Go.RowKit
set_option linter.unusedSimpArgs false
theorem anyH_world {P : Program} {md : Region.Mode} {ops : Array Oper} {Q : Exit → Act → World → Prop} {S : World → Prop} {fuel : Nat} {listed : Array Bool} {a : Act} {W : World} (F : World → Prop) (h1 : F W) (h2 : ∀ wz, F wz → wpAnyH P md ops Q S fuel listed a wz) : wpAnyH P md ops Q S fuel listed a W := h2 W h1
end Go.Proofs.YteacjlalekbhpaaDoor
namespace Go.Proofs.YteacjlalekbhpaaDoor
open Go.RowKit
set_option linter.unusedSimpArgs false
set_option maxRecDepth 100000
set_option linter.unusedSimpArgs false in
set_option maxHeartbeats 2000000 in
theorem pixelText_any (r g b a : Nat) (w : World) (hr : r < 256) (hg : g < 256) (hb : b < 256) (ha : a < 256) :
    Calls Tryd.prog 29 #[pixv r g b a] w fun e w' => e = .returned (.string (textS r g b a)) ∧ Ext w w' := by
  obtain ⟨Dr, hDr⟩ : ∃ D, dig r = D := ⟨_, rfl⟩
  have HCr : Hid (∀ w, Calls Tryd.prog 43 #[.int .u8 (r : Int)] w fun e w' => e = .returned (.string Dr) ∧ Ext w w') := Lib.hid (fun w => by rw [← hDr]; exact digits_any r hr w)
  have sr : Dr.size ≤ 2 := by rw [← hDr, dig_size]; exact Nat.le_refl 2
  obtain ⟨Dg, hDg⟩ : ∃ D, dig g = D := ⟨_, rfl⟩
  have HCg : Hid (∀ w, Calls Tryd.prog 43 #[.int .u8 (g : Int)] w fun e w' => e = .returned (.string Dg) ∧ Ext w w') := Lib.hid (fun w => by rw [← hDg]; exact digits_any g hg w)
  have sg : Dg.size ≤ 2 := by rw [← hDg, dig_size]; exact Nat.le_refl 2
  obtain ⟨Db, hDb⟩ : ∃ D, dig b = D := ⟨_, rfl⟩
  have HCb : Hid (∀ w, Calls Tryd.prog 43 #[.int .u8 (b : Int)] w fun e w' => e = .returned (.string Db) ∧ Ext w w') := Lib.hid (fun w => by rw [← hDb]; exact digits_any b hb w)
  have sb : Db.size ≤ 2 := by rw [← hDb, dig_size]; exact Nat.le_refl 2
  obtain ⟨Da, hDa⟩ : ∃ D, dig a = D := ⟨_, rfl⟩
  have HCa : Hid (∀ w, Calls Tryd.prog 43 #[.int .u8 (a : Int)] w fun e w' => e = .returned (.string Da) ∧ Ext w w') := Lib.hid (fun w => by rw [← hDa]; exact digits_any a ha w)
  have sa : Da.size ≤ 2 := by rw [← hDa, dig_size]; exact Nat.le_refl 2
  have HT : Hid (textS r g b a = Dr ++ Dg ++ Db ++ Da) := Lib.hid (by unfold textS; rw [hDr, hDg, hDb, hDa])
  have q1 : ¬ 9223372036854775807 < Dr.size + Dg.size := by omega
  have q2 : ¬ 9223372036854775807 < (Dr ++ Dg).size + Db.size := by simp only [ByteArray.size_append]; omega
  have q3 : ¬ 9223372036854775807 < (Dr ++ Dg ++ Db).size + Da.size := by simp only [ByteArray.size_append]; omega
  have r2 : ¬ 9223372036854775807 < Dr.size + Dg.size + Db.size := by omega
  have r3 : ¬ 9223372036854775807 < Dr.size + Dg.size + Db.size + Da.size := by omega
  clear hDr hDg hDb hDa sr sg sb sa
  obtain ⟨B, hB⟩ : ∃ B, w.heap.size = B := ⟨_, rfl⟩
  go_enter Tryd.func29, Tryd.ntmps29
  go_wp2_with fail
  refine wp_world (fun wz => Ext w wz ∧ Bk wz B #[.int .u8 (r : Int), .int .u8 (g : Int), .int .u8 (b : Int), .int .u8 (a : Int)]) ⟨(Ext.refl w).alloc _, Bk.at hB⟩ ?_
  (try rw [hB])
  clear hB
  rintro w1 ⟨hX, hP⟩
  have X_1 := Lib.hid (hX)
  have P_1 := Lib.hid (hP)
  clear hX hP
  refine wp_region_held_drew (S := fun w' => w'.cell? ⟨B, 0, none⟩ = some (.int .u8 (r : Int)) ∧ w'.cell? ⟨B, 1, none⟩ = some (.int .u8 (g : Int)) ∧ w'.cell? ⟨B, 2, none⟩ = some (.int .u8 (b : Int)) ∧ w'.cell? ⟨B, 3, none⟩ = some (.int .u8 (a : Int))) (by kernel_rfl) ⟨P_1.out.cell 0, P_1.out.cell 1, P_1.out.cell 2, P_1.out.cell 3⟩ (fun hHeld => ?_)
  clear hHeld
  refine anyH_world (fun wz => Ext w1 wz) (show Ext w1 w1.drew from Below.drew (Ext.refl w1)) ?_
  rintro v2 h
  have X_2 := Lib.hid (X_1.out.trans h)
  have P_2 := Lib.hid (P_1.out.ext h)
  clear h X_1 P_1
  have hHeld : v2.cell? ⟨B, 0, none⟩ = some (.int .u8 (r : Int)) ∧ v2.cell? ⟨B, 1, none⟩ = some (.int .u8 (g : Int)) ∧ v2.cell? ⟨B, 2, none⟩ = some (.int .u8 (b : Int)) ∧ v2.cell? ⟨B, 3, none⟩ = some (.int .u8 (a : Int)) := ⟨P_2.out.cell 0, P_2.out.cell 1, P_2.out.cell 2, P_2.out.cell 3⟩
  refine wpAnyH_take (i := 0) (v := ?_) rfl (by kernel_rfl) (by kernel_rfl) (by kernel_rfl) (fun _ _ _ h => h) (Or.inl ⟨by kernel_rfl, ?_⟩) hHeld ?_
  rotate_left
  · intro w hSw
    (try dsimp only at hSw)
    go_split_ands
    go_simp
    (try with_reducible rfl)
  try simp only [Act.put, List.getElem_toArray, List.getElem_cons_succ, List.getElem_cons_zero, List.setIfInBounds_toArray, List.set_cons_zero, List.set_cons_succ]
  refine wpAnyH_take (i := 1) (v := ?_) rfl (by kernel_rfl) (by kernel_rfl) (by kernel_rfl) (fun _ _ _ h => h) (Or.inl ⟨by kernel_rfl, ?_⟩) hHeld ?_
  rotate_left
  · intro w hSw
    (try dsimp only at hSw)
    go_split_ands
    go_simp
    (try with_reducible rfl)
  try simp only [Act.put, List.getElem_toArray, List.getElem_cons_succ, List.getElem_cons_zero, List.setIfInBounds_toArray, List.set_cons_zero, List.set_cons_succ]
  refine wpAnyH_take (i := 3) (v := ?_) rfl (by kernel_rfl) (by kernel_rfl) (by kernel_rfl) (fun _ _ _ h => h) (Or.inl ⟨by kernel_rfl, ?_⟩) hHeld ?_
  rotate_left
  · intro w hSw
    (try dsimp only at hSw)
    go_split_ands
    go_simp
    (try with_reducible rfl)
  try simp only [Act.put, List.getElem_toArray, List.getElem_cons_succ, List.getElem_cons_zero, List.setIfInBounds_toArray, List.set_cons_zero, List.set_cons_succ]
  refine wpAnyH_take (i := 4) (v := ?_) rfl (by kernel_rfl) (by kernel_rfl) (by kernel_rfl) (fun _ _ _ h => h) (Or.inl ⟨by kernel_rfl, ?_⟩) hHeld ?_
  rotate_left
  · intro w hSw
    (try dsimp only at hSw)
    go_split_ands
    go_simp
    (try with_reducible rfl)
  try simp only [Act.put, List.getElem_toArray, List.getElem_cons_succ, List.getElem_cons_zero, List.setIfInBounds_toArray, List.set_cons_zero, List.set_cons_succ]
  refine wpAnyH_take (i := 7) (v := ?_) rfl (by kernel_rfl) (by kernel_rfl) (by kernel_rfl) (fun _ _ _ h => h) (Or.inl ⟨by kernel_rfl, ?_⟩) hHeld ?_
  rotate_left
  · intro w hSw
    (try dsimp only at hSw)
    go_split_ands
    go_simp
    (try with_reducible rfl)
  try simp only [Act.put, List.getElem_toArray, List.getElem_cons_succ, List.getElem_cons_zero, List.setIfInBounds_toArray, List.set_cons_zero, List.set_cons_succ]
  refine wpAnyH_take (i := 8) (v := ?_) rfl (by kernel_rfl) (by kernel_rfl) (by kernel_rfl) (fun _ _ _ h => h) (Or.inl ⟨by kernel_rfl, ?_⟩) hHeld ?_
  rotate_left
  · intro w hSw
    (try dsimp only at hSw)
    go_split_ands
    go_simp
    (try with_reducible rfl)
  try simp only [Act.put, List.getElem_toArray, List.getElem_cons_succ, List.getElem_cons_zero, List.setIfInBounds_toArray, List.set_cons_zero, List.set_cons_succ]
  refine wpAnyH_take (i := 11) (v := ?_) rfl (by kernel_rfl) (by kernel_rfl) (by kernel_rfl) (fun _ _ _ h => h) (Or.inl ⟨by kernel_rfl, ?_⟩) hHeld ?_
  rotate_left
  · intro w hSw
    (try dsimp only at hSw)
    go_split_ands
    go_simp
    (try with_reducible rfl)
  try simp only [Act.put, List.getElem_toArray, List.getElem_cons_succ, List.getElem_cons_zero, List.setIfInBounds_toArray, List.set_cons_zero, List.set_cons_succ]
  refine wpAnyH_take (i := 12) (v := ?_) rfl (by kernel_rfl) (by kernel_rfl) (by kernel_rfl) (fun _ _ _ h => h) (Or.inl ⟨by kernel_rfl, ?_⟩) hHeld ?_
  rotate_left
  · intro w hSw
    (try dsimp only at hSw)
    go_split_ands
    go_simp
    (try with_reducible rfl)
  try simp only [Act.put, List.getElem_toArray, List.getElem_cons_succ, List.getElem_cons_zero, List.setIfInBounds_toArray, List.set_cons_zero, List.set_cons_succ]
  refine wpAnyH_ready (rs := [2]) (by kernel_rfl) (by simp) ?_
  refine AllReadyH.cons rfl (fun KK hK => ?_) AllReadyH.nil
  clear hHeld
  go_simp
  refine (HCr.out _).mono ?_
  rintro e v3 ⟨rfl, h⟩
  have X_3 := Lib.hid (X_2.out.trans h)
  have P_3 := Lib.hid (P_2.out.ext h)
  clear h X_2 P_2
  go_simp
  refine hK.out _ _ ⟨P_3.out.cell 0, P_3.out.cell 1, P_3.out.cell 2, P_3.out.cell 3⟩ (fun hHeld => ?_)
  clear hK KK
  try simp only [Act.put, List.getElem_toArray, List.getElem_cons_succ, List.getElem_cons_zero, List.setIfInBounds_toArray, List.set_cons_zero, List.set_cons_succ]
  refine wpAnyH_ready (rs := [5]) (by kernel_rfl) (by simp) ?_
  refine AllReadyH.cons rfl (fun KK hK => ?_) AllReadyH.nil
  clear hHeld
  go_simp
  refine (HCg.out _).mono ?_
  rintro e v4 ⟨rfl, h⟩
  have X_4 := Lib.hid (X_3.out.trans h)
  have P_4 := Lib.hid (P_3.out.ext h)
  clear h X_3 P_3
  go_simp
  refine hK.out _ _ ⟨P_4.out.cell 0, P_4.out.cell 1, P_4.out.cell 2, P_4.out.cell 3⟩ (fun hHeld => ?_)
  clear hK KK
  try simp only [Act.put, List.getElem_toArray, List.getElem_cons_succ, List.getElem_cons_zero, List.setIfInBounds_toArray, List.set_cons_zero, List.set_cons_succ]
  refine wpAnyH_take (i := 6) (v := ?_) rfl (by kernel_rfl) (by kernel_rfl) (by kernel_rfl) (fun _ _ _ h => h) (Or.inl ⟨by kernel_rfl, ?_⟩) hHeld ?_
  rotate_left
  · intro w hSw
    (try dsimp only at hSw)
    go_split_ands
    go_simp
    (try with_reducible rfl)
  try simp only [Act.put, List.getElem_toArray, List.getElem_cons_succ, List.getElem_cons_zero, List.setIfInBounds_toArray, List.set_cons_zero, List.set_cons_succ]
  refine wpAnyH_ready (rs := [9]) (by kernel_rfl) (by simp) ?_
  refine AllReadyH.cons rfl (fun KK hK => ?_) AllReadyH.nil
  clear hHeld
  go_simp
  refine (HCb.out _).mono ?_
  rintro e v5 ⟨rfl, h⟩
  have X_5 := Lib.hid (X_4.out.trans h)
  have P_5 := Lib.hid (P_4.out.ext h)
  clear h X_4 P_4
  go_simp
  refine hK.out _ _ ⟨P_5.out.cell 0, P_5.out.cell 1, P_5.out.cell 2, P_5.out.cell 3⟩ (fun hHeld => ?_)
  clear hK KK
  try simp only [Act.put, List.getElem_toArray, List.getElem_cons_succ, List.getElem_cons_zero, List.setIfInBounds_toArray, List.set_cons_zero, List.set_cons_succ]
  refine wpAnyH_take (i := 10) (v := ?_) rfl (by kernel_rfl) (by kernel_rfl) (by kernel_rfl) (fun _ _ _ h => h) (Or.inl ⟨by kernel_rfl, ?_⟩) hHeld ?_
  rotate_left
  · intro w hSw
    (try dsimp only at hSw)
    go_split_ands
    go_simp
    (try with_reducible rfl)
  try simp only [Act.put, List.getElem_toArray, List.getElem_cons_succ, List.getElem_cons_zero, List.setIfInBounds_toArray, List.set_cons_zero, List.set_cons_succ]
  refine wpAnyH_ready (rs := [13]) (by kernel_rfl) (by simp) ?_
  refine AllReadyH.cons rfl (fun KK hK => ?_) AllReadyH.nil
  clear hHeld
  go_simp
  refine (HCa.out _).mono ?_
  rintro e v6 ⟨rfl, h⟩
  have X_6 := Lib.hid (X_5.out.trans h)
  have P_6 := Lib.hid (P_5.out.ext h)
  clear h X_5 P_5
  go_simp
  refine hK.out _ _ ⟨P_6.out.cell 0, P_6.out.cell 1, P_6.out.cell 2, P_6.out.cell 3⟩ (fun hHeld => ?_)
  clear hK KK
  try simp only [Act.put, List.getElem_toArray, List.getElem_cons_succ, List.getElem_cons_zero, List.setIfInBounds_toArray, List.set_cons_zero, List.set_cons_succ]
  refine wpAnyH_take (i := 14) (v := ?_) rfl (by kernel_rfl) (by kernel_rfl) (by kernel_rfl) (fun _ _ _ h => h) (Or.inl ⟨by kernel_rfl, ?_⟩) hHeld ?_
  rotate_left
  · intro w hSw
    (try dsimp only at hSw)
    go_split_ands
    go_simp
    (try with_reducible rfl)
  try simp only [Act.put, List.getElem_toArray, List.getElem_cons_succ, List.getElem_cons_zero, List.setIfInBounds_toArray, List.set_cons_zero, List.set_cons_succ]
  refine wpAnyH_take (i := 15) (v := ?_) rfl (by kernel_rfl) (by kernel_rfl) (by kernel_rfl) (fun _ _ _ h => h) (Or.inl ⟨by kernel_rfl, ?_⟩) hHeld ?_
  rotate_left
  · intro w hSw
    (try dsimp only at hSw)
    go_split_ands
    go_simp
    (try with_reducible rfl)
  try simp only [Act.put, List.getElem_toArray, List.getElem_cons_succ, List.getElem_cons_zero, List.setIfInBounds_toArray, List.set_cons_zero, List.set_cons_succ]
  refine wpAnyH_done (by kernel_rfl) ?_ _
  clear hHeld
  go_wp2_with fail
  go_ret
  exact ⟨by rw [HT.out]; rfl, X_6.out⟩
end Go.Proofs.YteacjlalekbhpaaDoor
namespace Go.Proofs.YteacjlalekbhpaaDoor
open Go.RowKit
set_option linter.unusedSimpArgs false
set_option maxRecDepth 100000
def pcol (r g b a : Nat) : Nat → Nat
  | 0 => r
  | 1 => g
  | 2 => b
  | _ => a
theorem pcol_lt {r g b a : Nat} (hr : r < 256) (hg : g < 256) (hb : b < 256) (ha : a < 256) : ∀ k, pcol r g b a k < 256
  | 0 => hr
  | 1 => hg
  | 2 => hb
  | _ + 3 => ha
def hex2 (c : Nat) : List UInt8 := [hexB (c / 16), hexB (c % 16)]
def preT (f : Nat → Nat) : Nat → List UInt8
  | 0 => []
  | n + 1 => preT f n ++ hex2 (f n)
theorem preT_len (f : Nat → Nat) (n : Nat) : (preT f n).length = 2 * n := by
  induction n with
  | zero => rfl
  | succ n ih => unfold preT; rw [List.length_append, ih]; rfl
theorem preT_four (r g b a : Nat) : (⟨(preT (pcol r g b a) 4).toArray⟩ : ByteArray) = textS r g b a := rfl
theorem pu8inf : (Tryd.prog.info? 5).map (fun i => (i.zero, i.size, i.bytes)) = some (some (.int .u8 0), 1, 1) := by kernel_rfl
def byV (l : List UInt8) : List Value := l.map fun b => Value.int .u8 (b.toNat : Int)
theorem byV_get (l : List UInt8) (j : Nat) (h : j < l.length) : (byV l)[j]? = some (.int .u8 (l[j].toNat : Int)) := by simp [byV, h]
theorem by_lit {w : World} {base : Nat} {e : TypeId} {size : Nat} {v : Value} {n : Nat} {xs : List Value} (h : w.ownsRow base e size v n xs) : ∃ x c, v = .slice x n c := by
  rcases ownsRow_slice h with ⟨h1, h2⟩ | ⟨g, cap, h1⟩
  · exact ⟨none, 0, by rw [h1, h2]⟩
  · exact ⟨_, cap, h1⟩
theorem by_conv {w : World} {base : Nat} {v : Value} {l : List UInt8} (h : w.ownsRow base 5 1 v l.length (byV l)) : (convert 66 9 v).run Tryd.prog w = .ok (.string ⟨l.toArray⟩) w := by
  rcases ownsRow_slice h with ⟨rfl, h0⟩ | ⟨g, cap, rfl⟩
  · rw [run_convert_bytes_string w 66 9 5 none 0 0 Tryd.underlying66 Tryd.underlying5 Tryd.underlying9, List.eq_nil_of_length_eq_zero h0]; rfl
  · refine run_convert_bytes_back (P := Tryd.prog) w 66 9 5 ⟨g, 0, none⟩ cap l Tryd.underlying66 Tryd.underlying5 Tryd.underlying9 (fun j hj => ?_)
    rw [add_plain, h.cellAt j (by omega), byV_get _ j hj]
theorem hexT_at : ∀ q, (h : q < 16) → hexS[q]'(show q < 16 from h) = hexB q := by decide +kernel
theorem pu8_15 (x : Nat) (hx : x < 256) : bits BinOp.and IntKind.u8 (x : Int) 15 = ((x % 16 : Nat) : Int) := by
  rw [show (15 : Int) = ((15 : Nat) : Int) from rfl, u8_and_nat x 15 hx (by decide), nat_mask4]
set_option linter.unusedSimpArgs false in
set_option maxHeartbeats 4000000 in
theorem pxText_any (r g b a : Nat) (w : World) (hr : r < 256) (hg : g < 256) (hb : b < 256) (ha : a < 256) :
    Calls Tryd.prog 28 #[pixv r g b a] w fun e w' => e = .returned (.string (textS r g b a)) ∧ Ext w w' := by
  have HL := Lib.hid (pcol_lt hr hg hb ha)
  clear hr hg hb ha
  obtain ⟨i0, hi0, hz0, hz1, hz2⟩ := info_parts pu8inf
  go_enter Tryd.func28, Tryd.ntmps28
  go_wp2_with fail
  refine wp_world (fun wz => Ext w wz ∧ wz.heap.size = w.heap.size + 1 + 1 ∧ Bk wz (w.heap.size + 1) #[.int .u8 r, .int .u8 g, .int .u8 b, .int .u8 a]) ⟨((Ext.refl w).alloc _).alloc _, by simp, Bk.at (by simp)⟩ ?_
  rintro w2 ⟨hX, hZ, hB1⟩
  have HX := Lib.hid hX
  have HB : Hid (Bk w2 (w.heap.size + 1) #[.int .u8 r, .int .u8 g, .int .u8 b, .int .u8 a]) := Lib.hid hB1
  clear hX hB1
  go_loopw [3, 16] (fun v c wr => ∃ k : Nat, k ≤ 4 ∧ c = .int .i64 k ∧ Hid (wr.ownsRow w2.heap.size 5 1 v (preT (pcol r g b a) k).length (byV (preT (pcol r g b a) k))) ∧ Hid (Ext w2 wr)) (fun _ c _ => 4 - (intOf c).toNat)
  case atStart => exact ⟨0, by omega, rfl, Lib.hid (World.ownsRow_nil _ _ _ _), Lib.hid (Ext.refl _)⟩
  case round =>
    obtain ⟨k, hk, rfl, HR, HW⟩ := hrel
    obtain ⟨xo, co, rfl⟩ := by_lit HR.out
    by_cases hlt : k < 4
    · have t0 : decide ((k : Int) < 4) = true := decide_eq_true (by omega)
      obtain ⟨c, hc⟩ : ∃ c, pcol r g b a k = c := ⟨_, rfl⟩
      have hc8 := HL.out k
      have c0 : wr.cell? ⟨w.heap.size + 1, k, none⟩ = some (.int .u8 c) := by
        have hB := (HB.out.ext HW.out)
        rw [← hc]
        match k, hlt with
        | 0, _ => exact hB.cell 0
        | 1, _ => exact hB.cell 1
        | 2, _ => exact hB.cell 2
        | 3, _ => exact hB.cell 3
      obtain ⟨q, hq⟩ : ∃ q, c / 16 = q := ⟨_, rfl⟩
      obtain ⟨m, hm⟩ : ∃ m, c % 16 = m := ⟨_, rfl⟩
      rw [hc] at hc8
      have hq1 : q < 16 := by omega
      have hm1 : m < 16 := by omega
      have m1 : (c : Int) / 16 = (q : Int) := by omega
      have m2 : bits BinOp.and IntKind.u8 (c : Int) 15 = (m : Int) := by rw [pu8_15 c hc8, hm]
      have x1 := hexT_at q hq1
      have x2 := hexT_at m hm1
      obtain ⟨Y1, hY1⟩ : ∃ y, hexB q = y := ⟨_, rfl⟩
      obtain ⟨Y2, hY2⟩ : ∃ y, hexB m = y := ⟨_, rfl⟩
      rw [hY1] at x1
      rw [hY2] at x2
      have HS := Lib.hid (show preT (pcol r g b a) (k + 1) = preT (pcol r g b a) k ++ [Y1, Y2] by rw [preT, hc, hex2, hq, hm, hY1, hY2])
      unfold hexS at x1 x2
      have b1 : (0 : Int) ≤ (q : Int) := by omega
      have b2 : (q : Int) < 16 := by omega
      have b3 : (0 : Int) ≤ (m : Int) := by omega
      have b4 : (m : Int) < 16 := by omega
      have b5 : (q : Int).toNat = q := by omega
      have b6 : (m : Int).toNat = m := by omega
      clear hq hm hY1 hY2
      obtain ⟨L, hL⟩ : ∃ L, preT (pcol r g b a) k = L := ⟨_, rfl⟩
      rw [hL] at HR HS ⊢
      have hlen : L.length = 2 * k := by rw [← hL]; exact preT_len _ _
      obtain ⟨N, hN⟩ : ∃ N, L.length = N := ⟨_, rfl⟩
      have HN := Lib.hid hN
      rw [hN] at HR hlen ⊢
      have Hlen := Lib.hid hlen
      clear hL hc hN hlen
      go_wp2_with fail
      clear c0
      refine wp_region_held_drew (S := fun w' => True) (by kernel_rfl) trivial (fun hHeld => ?_)
      clear hHeld
      have hHeld : True := trivial
      refine wpAnyH_take (i := 0) (v := ?_) rfl (by kernel_rfl) (by kernel_rfl) (by kernel_rfl) (fun _ _ _ h => h) (Or.inl ⟨by kernel_rfl, ?_⟩) hHeld ?_
      rotate_left
      · intro w hSw
        (try dsimp only at hSw)
        go_split_ands
        go_simp
        (try with_reducible rfl)
      try simp only [Act.put, List.getElem_toArray, List.getElem_cons_succ, List.getElem_cons_zero, List.setIfInBounds_toArray, List.set_cons_zero, List.set_cons_succ]
      refine wpAnyH_take (i := 1) (v := ?_) rfl (by kernel_rfl) (by kernel_rfl) (by kernel_rfl) (fun _ _ _ h => h) (Or.inl ⟨by kernel_rfl, ?_⟩) hHeld ?_
      rotate_left
      · intro w hSw
        (try dsimp only at hSw)
        go_split_ands
        go_simp
        (try with_reducible rfl)
      try simp only [Act.put, List.getElem_toArray, List.getElem_cons_succ, List.getElem_cons_zero, List.setIfInBounds_toArray, List.set_cons_zero, List.set_cons_succ]
      refine wpAnyH_take (i := 2) (v := ?_) rfl (by kernel_rfl) (by kernel_rfl) (by kernel_rfl) (fun _ _ _ h => h) (Or.inl ⟨by kernel_rfl, ?_⟩) hHeld ?_
      rotate_left
      · intro w hSw
        (try dsimp only at hSw)
        go_split_ands
        go_simp
        (try with_reducible rfl)
      try simp only [Act.put, List.getElem_toArray, List.getElem_cons_succ, List.getElem_cons_zero, List.setIfInBounds_toArray, List.set_cons_zero, List.set_cons_succ]
      refine wpAnyH_take (i := 3) (v := ?_) rfl (by kernel_rfl) (by kernel_rfl) (by kernel_rfl) (fun _ _ _ h => h) (Or.inl ⟨by kernel_rfl, ?_⟩) hHeld ?_
      rotate_left
      · intro w hSw
        (try dsimp only at hSw)
        go_split_ands
        go_simp
        (try with_reducible rfl)
      try simp only [Act.put, List.getElem_toArray, List.getElem_cons_succ, List.getElem_cons_zero, List.setIfInBounds_toArray, List.set_cons_zero, List.set_cons_succ]
      refine wpAnyH_take (i := 4) (v := ?_) rfl (by kernel_rfl) (by kernel_rfl) (by kernel_rfl) (fun _ _ _ h => h) (Or.inl ⟨by kernel_rfl, ?_⟩) hHeld ?_
      rotate_left
      · intro w hSw
        (try dsimp only at hSw)
        go_split_ands
        go_simp
        (try with_reducible rfl)
      try simp only [Act.put, List.getElem_toArray, List.getElem_cons_succ, List.getElem_cons_zero, List.setIfInBounds_toArray, List.set_cons_zero, List.set_cons_succ]
      refine wpAnyH_take (i := 5) (v := ?_) rfl (by kernel_rfl) (by kernel_rfl) (by kernel_rfl) (fun _ _ _ h => h) (Or.inl ⟨by kernel_rfl, ?_⟩) hHeld ?_
      rotate_left
      · intro w hSw
        (try dsimp only at hSw)
        go_split_ands
        go_simp
        (try with_reducible rfl)
      try simp only [Act.put, List.getElem_toArray, List.getElem_cons_succ, List.getElem_cons_zero, List.setIfInBounds_toArray, List.set_cons_zero, List.set_cons_succ]
      refine wpAnyH_take (i := 6) (v := ?_) rfl (by kernel_rfl) (by kernel_rfl) (by kernel_rfl) (fun _ _ _ h => h) (Or.inl ⟨by kernel_rfl, ?_⟩) hHeld ?_
      rotate_left
      · intro w hSw
        (try dsimp only at hSw)
        go_split_ands
        go_simp
        (try with_reducible rfl)
      try simp only [Act.put, List.getElem_toArray, List.getElem_cons_succ, List.getElem_cons_zero, List.setIfInBounds_toArray, List.set_cons_zero, List.set_cons_succ]
      refine wpAnyH_ready (rs := [7]) (by kernel_rfl) (by simp) ?_
      refine AllReadyH.cons rfl (fun KK hK => ?_) AllReadyH.nil
      clear hHeld
      go_simp
      refine hK.out _ _ trivial (fun hHeld => ?_)
      clear hK KK hHeld
      try simp only [Act.put, List.getElem_toArray, List.getElem_cons_succ, List.getElem_cons_zero, List.setIfInBounds_toArray, List.set_cons_zero, List.set_cons_succ]
      refine anyH_world (fun wz => Ext wr wz ∧ Bk wz wr.heap.size #[.int .u8 (Y1.toNat : Int), .int .u8 (Y2.toNat : Int)]) ⟨(show Ext wr wr.drew from Below.drew (Ext.refl wr)).alloc _, Bk.at rfl⟩ ?_
      rintro wz ⟨hE, hB⟩
      have HRz := Lib.hid (ownsRow_kept HR.out hE.keeps (fun _ _ => id))
      have XZ := Lib.hid (HW.out.trans hE)
      obtain ⟨v', w', hr, h2, h3, h4, h5⟩ := run_append_own_at (P := Tryd.prog) wz w2.heap.size 66 66 5 i0 (.int .u8 0) 1 1 Tryd.underlying66 hi0 hz0 hz1 hz2 rfl (by decide) _ N _ HRz.out ⟨wr.heap.size, 0, none⟩ 2 2 [.int .u8 (Y1.toNat : Int), .int .u8 (Y2.toNat : Int)] rfl (fun j u h => by
          rw [add_plain]; exact (hB.cell _).trans (by simpa using h)) (by intro u hu; simp at hu; rcases hu with rfl | rfl <;> rfl) (by have := Hlen.out; unfold maxLen; omega) (by have := Hlen.out; omega) XZ.out.size
      have H2 := Lib.hid h2
      have H3 := Lib.hid h3
      clear hE hB h2 h3 h4 h5
      have hHeld : True := trivial
      refine wpAnyH_ready (rs := [8]) (by kernel_rfl) (by simp) ?_
      refine AllReadyH.cons rfl (fun KK hK => ?_) AllReadyH.nil
      clear hHeld
      rw [if_pos (show _ = true by kernel_rfl)]
      unfold Oper.wp execOp
      simp only [resolve, invoke, builtin, Sem.run_bind, Sem.run_pure, Result.andThen_ok, List.map_toArray, List.map_cons, List.map_nil, Act.eval, List.getElem_toArray, List.getElem_cons_succ, List.getElem_cons_zero]
      simp only [Array.getD_eq_getD_getElem?, List.getElem?_toArray, List.getElem?_cons_succ, List.getElem?_cons_zero, Option.getD_some, hr, Result.andThen_ok, Oper.upon]
      refine hK.out _ _ trivial (fun hHeld => ?_)
      clear hK KK hr
      try simp only [Act.put, List.getElem_toArray, List.getElem_cons_succ, List.getElem_cons_zero, List.setIfInBounds_toArray, List.set_cons_zero, List.set_cons_succ]
      refine wpAnyH_take (i := 9) (v := ?_) rfl (by kernel_rfl) (by kernel_rfl) (by kernel_rfl) (fun _ _ _ h => h) (Or.inl ⟨by kernel_rfl, ?_⟩) hHeld ?_
      rotate_left
      · intro w hSw
        (try dsimp only at hSw)
        go_split_ands
        go_simp
        (try with_reducible rfl)
      try simp only [Act.put, List.getElem_toArray, List.getElem_cons_succ, List.getElem_cons_zero, List.setIfInBounds_toArray, List.set_cons_zero, List.set_cons_succ]
      refine wpAnyH_done (by kernel_rfl) ?_ _
      clear hHeld
      go_wp2_with fail
      go_roundw
      case rel =>
        refine ⟨k + 1, by omega, rfl, Lib.hid ?_, Lib.hid (Below.trans XZ.out ((Keeps.grown H3.out).below XZ.out.size (fun k hk e => by have := (HRz.out.lt k e).1; omega)))⟩
        have h2 := H2.out
        rw [HS.out, List.length_append, HN.out, show byV (L ++ [Y1, Y2]) = byV L ++ [.int .u8 (Y1.toNat : Int), .int .u8 (Y2.toNat : Int)] by simp [byV]]
        exact h2
      case measure => simp [intOf]; omega
    · obtain rfl : k = 4 := by omega
      have t0 : decide ((4 : Int) < 4) = false := rfl
      have hcv := by_conv HR.out
      rw [preT_four] at hcv
      rw [show (preT (pcol r g b a) 4).length = 8 from rfl] at *
      have HE := Lib.hid (HX.out.trans HW.out)
      go_wp2_with fail
      go_ret
      exact ⟨rfl, HE.out⟩
end Go.Proofs.YteacjlalekbhpaaDoor
namespace Go.Proofs.YteacjlalekbhpaaDoor
open Go.RowKit
set_option linter.unusedSimpArgs false
set_option maxRecDepth 100000
def digV (c : Nat) : Int := if 48 ≤ c ∧ c ≤ 57 then (c : Int) - 48 else if 97 ≤ c ∧ c ≤ 102 then (c : Int) - 87 else -1
theorem digV_bd (c : Nat) : -1 ≤ digV c ∧ digV c < 16 := by unfold digV; split <;> (try split) <;> omega
set_option linter.unusedSimpArgs false in
theorem digitOf_any (c : Nat) (hc : c < 256) (w : World) :
    Calls Tryd.prog 47 #[.int .u8 (c : Int)] w fun e w' => e = .returned (.int .i64 (digV c)) ∧ w = w' := by
  obtain ⟨V, hV⟩ : ∃ V, digV c = V := ⟨_, rfl⟩
  rw [hV]
  unfold digV at hV
  by_cases h1 : 48 ≤ c
  · have t1 : decide ((48 : Int) ≤ (c : Int)) = true := decide_eq_true (by omega)
    by_cases h2 : c ≤ 57
    · have t2 : decide ((c : Int) ≤ 57) = true := decide_eq_true (by omega)
      rw [if_pos ⟨h1, h2⟩] at hV
      have e1 : ((c : Int) - 48) % 256 = V := by omega
      have e2 : IntKind.u8.wrap ((c : Int) - 48) = V := by rw [IntKind.wrap_u8']; omega
      have HV := Lib.hid hV
      clear hV h1 h2
      go_enter Tryd.func47, Tryd.ntmps47
      go_wp2_with fail
      go_ret
      exact ⟨by first | rfl | (congr 2; have := HV.out; omega), rfl⟩
    · have t2 : decide ((c : Int) ≤ 57) = false := decide_eq_false (by omega)
      rw [if_neg (fun h => h2 h.2)] at hV
      by_cases h3 : 97 ≤ c
      · have t3 : decide ((97 : Int) ≤ (c : Int)) = true := decide_eq_true (by omega)
        by_cases h4 : c ≤ 102
        · have t4 : decide ((c : Int) ≤ 102) = true := decide_eq_true (by omega)
          rw [if_pos ⟨h3, h4⟩] at hV
          obtain ⟨D, hD⟩ : ∃ D : Int, (c : Int) - 97 = D := ⟨_, rfl⟩
          have e1 : ((c : Int) - 97) % 256 = D := by omega
          have e2 : IntKind.u8.wrap ((c : Int) - 97) = D := by rw [IntKind.wrap_u8']; omega
          have e3 : D + 10 = V := by omega
          have HV := Lib.hid hV
          clear hV hD h1 h2 h3 h4
          go_enter Tryd.func47, Tryd.ntmps47
          go_wp2_with fail
          go_ret
          exact ⟨rfl, rfl⟩
        · have t4 : decide ((c : Int) ≤ 102) = false := decide_eq_false (by omega)
          rw [if_neg (fun h => h4 h.2)] at hV
          subst hV
          clear h1 h2 h3 h4
          go_enter Tryd.func47, Tryd.ntmps47
          go_wp2_with fail
          go_ret
          exact ⟨rfl, rfl⟩
      · have t3 : decide ((97 : Int) ≤ (c : Int)) = false := decide_eq_false (by omega)
        rw [if_neg (fun h => h3 h.1)] at hV
        subst hV
        clear h1 h2 h3
        go_enter Tryd.func47, Tryd.ntmps47
        go_wp2_with fail
        go_ret
        exact ⟨rfl, rfl⟩
  · have t1 : decide ((48 : Int) ≤ (c : Int)) = false := decide_eq_false (by omega)
    have t3 : decide ((97 : Int) ≤ (c : Int)) = false := decide_eq_false (by omega)
    rw [if_neg (fun h => h1 h.1), if_neg (fun h => h1 (by omega))] at hV
    subst hV
    clear h1
    go_enter Tryd.func47, Tryd.ntmps47
    go_wp2_with fail
    go_ret
    exact ⟨rfl, rfl⟩
end Go.Proofs.YteacjlalekbhpaaDoor
namespace Go.Proofs.YteacjlalekbhpaaDoor
open Go.RowKit
set_option linter.unusedSimpArgs false
set_option maxRecDepth 100000
def nib (s : ByteArray) (i : Nat) : Int := if h : i < s.size then digV (s[i]).toNat else -1
theorem nib_at {s : ByteArray} {i : Nat} (h : i < s.size) : nib s i = digV (s[i]).toNat := dif_pos h
theorem nib_lt (s : ByteArray) (i : Nat) : nib s i < 16 := by unfold nib; split; exact (digV_bd _).2; omega
def pixB (s : ByteArray) (i : Nat) : Int := 16 * nib s (2 * i) + nib s (2 * i + 1)
open Classical in
noncomputable def pixOfV (s : ByteArray) : Value := if s.size = 8 ∧ ∀ i, i < 8 → 0 ≤ nib s i then .tuple #[pixv (pixB s 0) (pixB s 1) (pixB s 2) (pixB s 3), .bool true] else .tuple #[pixv 0 0 0 0, .bool false]
/-- what the first i digits spell -/
def hexN (s : ByteArray) : Nat → Int
  | 0 => 0
  | i + 1 => 16 * hexN s i + nib s i
theorem hexN_bd (s : ByteArray) (h : ∀ i, i < 8 → 0 ≤ nib s i) : ∀ i, i ≤ 8 → 0 ≤ hexN s i ∧ hexN s i < 16 ^ i
  | 0, _ => ⟨Int.le_refl 0, by simp [hexN]⟩
  | i + 1, hi => by
    have ih := hexN_bd s h i (by omega)
    have h1 := h i (by omega)
    have h2 := nib_lt s i
    have e : (16 : Int) ^ (i + 1) = 16 * 16 ^ i := by rw [Int.pow_succ, Int.mul_comm]
    refine ⟨by simp only [hexN]; omega, ?_⟩
    simp only [hexN]
    rw [e]
    omega
theorem hexN_pix (s : ByteArray) (h : ∀ i, i < 8 → 0 ≤ nib s i) : 0 ≤ hexN s 8 ∧ hexN s 8 < 4294967296 ∧ hexN s 8 / 16777216 % 256 = pixB s 0 ∧ hexN s 8 / 65536 % 256 = pixB s 1 ∧ hexN s 8 / 256 % 256 = pixB s 2 ∧ hexN s 8 % 256 = pixB s 3 := by
  have a0 := h 0 (by omega)
  have a1 := h 1 (by omega)
  have a2 := h 2 (by omega)
  have a3 := h 3 (by omega)
  have a4 := h 4 (by omega)
  have a5 := h 5 (by omega)
  have a6 := h 6 (by omega)
  have a7 := h 7 (by omega)
  have b0 := nib_lt s 0
  have b1 := nib_lt s 1
  have b2 := nib_lt s 2
  have b3 := nib_lt s 3
  have b4 := nib_lt s 4
  have b5 := nib_lt s 5
  have b6 := nib_lt s 6
  have b7 := nib_lt s 7
  simp only [hexN, pixB, Nat.reduceMul, Nat.reduceAdd]
  omega
end Go.Proofs.YteacjlalekbhpaaDoor
