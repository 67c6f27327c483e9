/-
  huff.Lengths: a best code's lengths.
  math/bits.Mul at 1.
  slices.Repeat of one whole number.
-/
import Derived.Test.YtnhbjgmfbcedaaaDoorDeflateTwiceG1
import Derived.Test.YtnhbjgmfbcedaaaDoorDeflateTwiceG6
import Derived.Test.YtnhbjgmfbcedaaaDoorDeflateTwiceG9
import Derived.Test.YtnhbjgmfbcedaaaDoorDeflateTwiceG4
import Derived.Deep.DeepCutAuto
import Derived.Deep.CutBlock
import Derived.RegionTactic
import Derived.Lib.Mul64
import Derived.Laws.Bits64b
import Derived.Test.YtnhbjgmfbcedaaaDoorDeflateTwiceG2
import Derived.Lib.SliceRun
import Derived.Laws.CopyOwn
import Derived.Deep.LoopGhost
import Derived.Deep.RegionLaw
import Derived.Deep.OwnRows
import Derived.Shelf.RegionOpenPlain
import Derived.Lib.OthersKept
set_option linter.unusedSimpArgs false
set_option linter.unusedVariables false
set_option maxRecDepth 100000
namespace Go.Proofs.YtnhbjgmfbcedaaaDoor
open Go.RowKit
theorem Pkg.coins_succ (cnt : Nat → Nat) (i : Nat) : Pkg.coins cnt (i + 1) = Pkg.coins cnt i ++ (if 0 < cnt i then [Pkg.coin cnt i] else []) := by
  unfold Pkg.coins Pkg.used
  rw [List.range_succ, List.filter_append, List.map_append]
  congr 1
  by_cases h : 0 < cnt i <;> simp [h]
def lenGood (f : Nat → Int) (len : Nat) (most : Nat) : Prop := len ≤ 300 ∧ 1 ≤ most ∧ most ≤ 15 ∧ ∀ j, j < len → 0 ≤ f j ∧ f j ≤ 1048576
def LenPost (f : Nat → Int) (len most : Nat) (w : World) (ES : Value) (e : Ending) (w' : World) : Prop := Ext w w' ∧
      ((2 ^ most < (Pkg.used (cntN f) len).length ∧ e = .returned (.tuple #[.slice none 0 0, ES])) ∨
       ((Pkg.used (cntN f) len).length ≤ 2 ^ most ∧ ∃ g, e = .returned (.tuple #[.slice (some ⟨g, 0, none⟩) len len, .nilIface]) ∧ Ints w' (some ⟨g, 0, none⟩) len (lenF f len most) ∧ w.heap.size ≤ g))
set_option maxHeartbeats 16000000 in
theorem lengths_good (x : Option Addr) (len cap : Nat) (f : Nat → Int) (most : Nat) (w : World) (hx : Ints w x len f) (ES : Value) (hS : w.cell? ⟨3, 0, none⟩ = some ES) (h : lenGood f len most) :
    Calls Tryd.prog 66 #[.slice x len cap, .int .i64 (most : Int)] w fun e w' => LenPost f len most w ES e w' := by
  obtain ⟨i0, hi0, hz0, hz1, hz2⟩ := info_parts pkinfo
  obtain ⟨hl, hm1, hm2, hf⟩ := h
  have HX := Lib.hid hx
  have HS := Lib.hid hS
  have HF := Lib.hid hf
  have HC := Lib.hid (containsL_calls x len cap f w hx (by unfold maxLen; omega))
  have t1 : decide ((300 : Int) < (len : Int)) = false := decide_eq_false (by omega)
  have t2 : decide ((most : Int) < 1) = false := decide_eq_false (by omega)
  have t3 : decide ((15 : Int) < (most : Int)) = false := decide_eq_false (by omega)
  obtain ⟨B0, hB0⟩ : ∃ B, w.heap.size = B := ⟨_, rfl⟩
  have HB0 := Lib.hid hB0
  clear hx hS hf hB0
  go_enter Tryd.func66, Tryd.ntmps66
  go_wp2_with fail
  refine HC.out.mono ?_
  rintro e w1 ⟨⟨b, rfl, hb⟩, rfl⟩
  have hb2 : b = false := by
    rcases hb with ⟨hb, _⟩ | ⟨_, hb⟩
    · exact hb
    · obtain ⟨j, hj, q⟩ := hb
      have := HF.out j hj
      omega
  subst hb2
  clear hb HC
  go_wp2_with fail
  go_loopw [6, 35] (fun v c wr => ∃ i : Nat, i ≤ len ∧ c = .int .i64 i ∧ Hid (∃ L : List Pk, wr.ownsRow B0 134 2 v L.length (pkL L) ∧ pcs L = Pkg.coins (cntN f) i ∧ L.length ≤ i ∧ ∀ p ∈ L, SyAt wr p) ∧ Hid (Ext w wr)) (fun _ c _ => len - (intOf c).toNat)
  case atStart => exact ⟨0, by omega, rfl, Lib.hid ⟨[], World.ownsRow_nil _ _ _ _, rfl, by simp, by simp⟩, Lib.hid (Ext.refl _)⟩
  case round =>
    obtain ⟨i, hi, rfl, HO, HE⟩ := hrel
    by_cases hlt : i < len
    · obtain ⟨a, rfl⟩ : ∃ a, x = some a := by
        cases x with
        | none => have := HX.out.1 rfl; omega
        | some a => exact ⟨a, rfl⟩
      obtain ⟨hc, h1, h2⟩ := (HX.out.ext HE.out).2 a rfl i hlt
      obtain ⟨c, hcf⟩ : ∃ c : Nat, f i = (c : Int) := ⟨(f i).toNat, by have := HF.out i hlt; omega⟩
      have HCF := Lib.hid (show cntN f i = c by unfold cntN; omega)
      have hcb : c ≤ 1048576 := by have := HF.out i hlt; omega
      rw [hcf] at hc
      clear h1 h2 hcf
      by_cases h0 : c = 0
      · have t4 : decide ((0 : Int) < (c : Int)) = false := decide_eq_false (by omega)
        have HN := Lib.hid (show Pkg.coins (cntN f) (i + 1) = Pkg.coins (cntN f) i by rw [Pkg.coins_succ, HCF.out, if_neg (by omega), List.append_nil])
        have h5 : ¬ 0 < c := by omega
        clear h0
        go_wp2_with fail
        go_roundw
        case rel =>
          obtain ⟨L, q1, q2, q3, q4⟩ := HO.out
          exact ⟨i + 1, by omega, by go_num, Lib.hid ⟨L, q1, by rw [HN.out]; exact q2, by omega, q4⟩, HE⟩
        case measure => simp [intOf]; omega
      · have t4 : decide ((0 : Int) < (c : Int)) = true := decide_eq_true (by omega)
        have HN := Lib.hid (show Pkg.coins (cntN f) (i + 1) = Pkg.coins (cntN f) i ++ [⟨c, [i]⟩] by rw [Pkg.coins_succ, HCF.out, if_pos (by omega)]; show _ ++ [(⟨cntN f i, [i]⟩ : Pkg.Pc)] = _; rw [HCF.out])
        obtain ⟨L, q1, q2, q3, q4⟩ := HO.out
        have Q2 := Lib.hid q2
        have Q3 := Lib.hid q3
        obtain ⟨N, hN⟩ : ∃ N, L.length = N := ⟨_, rfl⟩
        have HNN := Lib.hid hN
        rw [hN] at q1 q3
        clear hN
        obtain ⟨xo, co, rfl⟩ := lit_row q1
        have HOA : Hid (((wr.alloc (.cells #[.int .i64 (i : Int)] 3)).alloc (.cells #[.int .i64 (c : Int), .slice (some ⟨wr.heap.size, 0, none⟩) 1 1] 134)).ownsRow B0 134 2 (.slice xo N co) N (pkL L)) := Lib.hid (ownsRow_kept q1 (((Ext.refl wr).alloc _).alloc _).keeps (fun _ _ => id))
        have Q4 := Lib.hid q4
        have hsz := HE.out.size
        have h5 : 0 < c := by omega
        have hLi := q3
        clear q1 q2 q3 q4 h0
        go_wp2_with (at_builtin; refine wpList_append_own_at _ rfl _ _ 132 rfl B0 134 i0 (.agg #[.int .i64 0, .slice none 0 0]) 2 32 Tryd.underlying132 hi0 hz0 hz1 hz2 rfl (by decide) (.slice xo N co) N (pkL L) rfl HOA.out ⟨wr.heap.size + 1, 0, none⟩ 1 1 [.int .i64 (c : Int), .slice (some ⟨wr.heap.size, 0, none⟩) 1 1] rfl rfl ?c2 ?c6 ?c3 ?c4 ?c5 ?_)
        case c2 =>
          intro j u hj
          have hb : Bk ((wr.alloc (.cells #[.int .i64 (i : Int)] 3)).alloc (.cells #[.int .i64 (c : Int), .slice (some ⟨wr.heap.size, 0, none⟩) 1 1] 134)) (wr.heap.size + 1) #[.int .i64 (c : Int), .slice (some ⟨wr.heap.size, 0, none⟩) 1 1] := Bk.at (by simp)
          rw [add_plain]
          exact (hb.cell j).trans (by simpa using hj)
        case c6 => intro u hu; simp at hu; rcases hu with rfl | rfl <;> rfl
        case c3 => unfold maxLen; omega
        case c4 => omega
        case c5 => have := HB0.out; simp; omega
        intro v' w2 hown hgrow _ _
        have HXG := Lib.hid ((show Ext wr ((wr.alloc (.cells #[.int .i64 (i : Int)] 3)).alloc (.cells #[.int .i64 (c : Int), .slice (some ⟨wr.heap.size, 0, none⟩) 1 1] 134)) from ((Ext.refl wr).alloc _).alloc _))
        have HG := Lib.hid hgrow
        have HOW := Lib.hid hown
        clear hown hgrow
        go_wp2_with fail
        refine ⟨⟨i + 1, by omega, by simp, Lib.hid ⟨L ++ [⟨c, some ⟨wr.heap.size, 0, none⟩, 1, 1, [i]⟩], ?_, ?_, by simp [HNN.out]; omega, ?_⟩, ?_⟩, by simp [intOf]; omega⟩
        · rw [List.length_append, HNN.out, pkL_append]; exact HOW.out
        · rw [pcs_append, Q2.out, HN.out]; rfl
        · intro p hp
          rcases List.mem_append.1 hp with q | q
          · exact ((Q4.out p q).ext HXG.out).grown HOA.out HG.out
          · rw [List.mem_singleton.1 q]
            refine SyAt.grown ⟨Nat.zero_lt_one, wr.heap.size, _, rfl, rfl, ((Below.heap_alloc _ _ _ (by simp)).trans (heap_alloc_new wr _)), ?_⟩ HOA.out HG.out
            intro j hj
            have : j = 0 := by simp at hj; omega
            subst this
            rfl
        · exact Lib.hid (Below.trans (HE.out.trans HXG.out) ((Keeps.grown HG.out).below (by have := (HE.out.trans HXG.out).size; exact this) (fun q hq e => by have := (HOA.out.lt q e).1; have := HB0.out; omega)))
    · obtain rfl : len = i := by omega
      obtain ⟨L, q1, q2, q3, q4⟩ := HO.out
      obtain ⟨N, hN⟩ : ∃ N, L.length = N := ⟨_, rfl⟩
      have HN := Lib.hid hN
      have HNU := Lib.hid (show (Pkg.used (cntN f) len).length = N by
        have := congrArg List.length q2
        rw [pcs_length, hN] at this
        rw [this]
        simp [Pkg.coins])
      rw [hN] at q1 q3
      obtain ⟨xo, co, rfl⟩ := lit_row q1
      have Q1 := Lib.hid q1
      have Q2 := Lib.hid q2
      have Q4 := Lib.hid q4
      have hbl := World.block_lt_of_cell? w _ HS.out
      have hS1 := (HE.out.cell (p := ⟨3, 0, none⟩) hbl).trans HS.out
      obtain ⟨M, hM⟩ : ∃ M, 2 ^ most = M := ⟨_, rfl⟩
      have HM := Lib.hid hM
      have hMb : M ≤ 32768 := by rw [← hM]; exact Nat.pow_le_pow_right (by decide) hm2
      have e5 : wrap64 ((2 : Int) ^ most) = (M : Int) := by
        have : ((2 : Int) ^ most) = ((2 ^ most : Nat) : Int) := by rw [Int.natCast_pow]; rfl
        rw [this, hM]
        unfold wrap64
        omega
      clear q1 q2 q4 hN HO hM hbl hi
      by_cases hMN : M < N
      · go_wp2_with fail
        go_region
        all_goals
          go_wp2_with fail
          go_ret2
          exact ⟨Below.drew HE.out, .inl ⟨by rw [HNU.out, HM.out]; exact hMN, rfl⟩⟩
      · have hmk := run_make_row' (P := Tryd.prog) 31 3 (.int .i64 0) 8 Tryd.underlying31 i64info rfl .i64 .i64 len (by omega) (by omega)
        clear hS1
        go_upto_region 13 with fail
        clear hmk
        rw [made_eq]
        obtain ⟨go, hgo⟩ : ∃ g, wr.heap.size = g := ⟨_, rfl⟩
        refine wp_world (fun wz => Ext wr wz ∧ Cs wz go len .i64 (fun _ => 0) ∧ wz.heap.size = go + 1) ⟨(Ext.refl wr).alloc _, by rw [← hgo]; exact Cs.born wr .i64 len (fun _ => 0) 3, by simp [hgo]⟩ ?_
        rintro w2 ⟨hX, hC, hZ⟩
        rw [hgo]
        have HX2 := Lib.hid (HE.out.trans hX)
        have HCS := Lib.hid hC
        have HGO := Lib.hid (And.intro hgo hZ)
        have HLE := Lib.hid (show B0 ≤ go by have := HE.out.size; have := HB0.out; omega)
        have Q1b := Lib.hid (ownsRow_kept Q1.out hX.keeps (fun _ _ => id))
        have Q4b : Hid (∀ p ∈ L, SyAt w2 p ∧ p.a ≠ some ⟨go, 0, none⟩) := Lib.hid (fun p hp => ⟨(Q4.out p hp).ext hX, fun e => by
          obtain ⟨_, g', cs, h1, _, h3, _⟩ := Q4.out p hp
          rw [h1] at e
          have := lt_of_block h3
          injection e with e; injection e with e
          omega⟩)
        have HGC := Lib.hid (show ∀ k, (Value.slice xo N co).ownBlock = some k → B0 ≤ k ∧ k < go from fun k hk => ⟨(Q1.out.lt k hk).1, by rw [← hgo]; exact (Q1.out.lt k hk).2⟩)
        clear hX hC hZ hgo Q1 Q4
        by_cases h0 : N = 0
        · have t6 : ((N : Int) == 1) = false := beq_eq_false_iff_ne.2 (by omega)
          have h6 : N ≠ 1 := by omega
          have h7 : N < 2 := by omega
          go_wp2_with fail
          go_ret2
          refine ⟨HX2.out, .inr ⟨by rw [HNU.out, HM.out]; omega, go, rfl, ⟨(fun h => by cases h), fun a ha j hj => ?_⟩, by have := HB0.out; have := HLE.out; omega⟩⟩
          injection ha with ha
          subst ha
          have hz : lenF f len most j = 0 := by
            unfold lenF Pkg.lens
            rw [if_pos (by rw [HNU.out]; omega), if_neg]
            · rfl
            · intro hm
              have := List.length_pos_of_mem hm
              have := HNU.out
              omega
          rw [add_plain, hz]
          exact ⟨(HCS.out j hj).1, by decide, by decide⟩
        · obtain ⟨gc, cc, hv, hgc, hP, _⟩ := PR.of_own (l := L) (by rw [HN.out]; exact Q1b.out) (by rw [HN.out]; omega)
          injection hv with hv1 hv2 hv3
          subst hv1 hv3
          clear hv2
          have hgo := (HGC.out gc rfl).2
          have HP := Lib.hid hP
          have HGC2 := Lib.hid (And.intro hgc hgo)
          clear hP hgc hgo HGC
          by_cases h1 : N = 1
          · have t6 : ((N : Int) == 1) = true := beq_iff_eq.2 (by omega)
            subst h1
            obtain ⟨p, rfl⟩ : ∃ p, L = [p] := by
              match L, HN.out with
              | [p], _ => exact ⟨p, rfl⟩
            obtain ⟨hps, hpa⟩ := Q4b.out p (by simp)
            obtain ⟨s, hps1, hsu⟩ : ∃ s, p.s = [s] ∧ Pkg.used (cntN f) len = [s] := by
              have h2 := Q2.out
              unfold Pkg.coins at h2
              match hu : Pkg.used (cntN f) len, HNU.out with
              | [s], _ =>
                rw [hu] at h2
                refine ⟨s, ?_, rfl⟩
                have : pcs [p] = [Pkg.coin (cntN f) s] := by simpa using h2
                unfold pcs at this
                simp only [List.map_cons, List.map_nil, List.cons.injEq, and_true] at this
                exact congrArg Pkg.Pc.s this
            have hsl : s < len := (Pkg.mem_used.1 (by rw [hsu]; simp)).1
            obtain ⟨k2, k3⟩ := HP.out.at (i := 0) (by simp)
            obtain ⟨sg, hsg, k4⟩ := hps.cell (j := 0) hps.1
            have k5 : p.n = 1 := by
              obtain ⟨_, g', cs, _, h2, _⟩ := hps
              rw [h2, hps1]; rfl
            simp only [hps1, List.getD_cons_zero] at k4
            simp only [List.getElem_cons_zero, hsg, k5, Nat.zero_mul, Nat.zero_add] at k3
            obtain ⟨k6, k7⟩ := HCS.out s hsl
            have HFI := Lib.hid (HCS.out.put s 1 (fun i => if i = s then 1 else 0) hsl (fun i _ => rfl))
            have HHS := Lib.hid hsu
            have hsi : (s : Int) < (len : Int) := by omega
            clear k2 hps hpa hsu hps1 hsg k5
            go_wp2_with fail
            go_ret2
            refine ⟨Below.setCell HX2.out (by have := HB0.out; have := HLE.out; show w.heap.size ≤ go; omega) _, .inr ⟨by rw [HNU.out, HM.out]; omega, go, rfl, ⟨(fun h => by cases h), fun a ha j hj => ?_⟩, by have := HB0.out; have := HLE.out; omega⟩⟩
            injection ha with ha
            subst ha
            have hz : lenF f len most j = if j = s then 1 else 0 := by
              unfold lenF Pkg.lens
              rw [if_pos (by rw [HNU.out]; omega), HHS.out]
              simp only [List.mem_singleton]
              split <;> rfl
            rw [add_plain, hz]
            exact ⟨(HFI.out j hj).1, by split <;> decide, by split <;> decide⟩
          · have t6 : ((N : Int) == 1) = false := beq_eq_false_iff_ne.2 (by omega)
            have h7 : ¬ N < 2 := by omega
            have HSO := Lib.hid (sort_any gc N co L w2 HN.out (by omega) HP.out)
            have HSY : Hid (Sy w2 go len 0 L) := Lib.hid (fun p hp => by
              have hq : p.pc ∈ Pkg.coins (cntN f) len := by rw [← Q2.out]; exact List.mem_map.2 ⟨p, hp, rfl⟩
              obtain ⟨s, hs, e⟩ := List.mem_map.1 hq
              have hs2 := (Pkg.mem_used.1 hs).1
              have e1 : p.c = cntN f s := (congrArg Pkg.Pc.c e).symm
              have e2 : p.s = [s] := (congrArg Pkg.Pc.s e).symm
              have hb := HF.out s hs2
              refine ⟨Q4b.out p hp, by rw [e1]; unfold cntN; omega, by rw [e2]; exact Nat.le_refl 1, fun z hz => ?_⟩
              rw [e2] at hz
              rw [List.mem_singleton.1 hz]; exact hs2)
            clear Q4b
            go_wp2_with fail
            refine HSO.out.mono ?_
            rintro e w3 ⟨rfl, hr, ho⟩
            have HX3 : Hid (Ext w w3) := Lib.hid (Below.trans HX2.out (ho.below (B := w.heap.size) HX2.out.size (fun k hk e => by have := HGC2.out.1; have := HB0.out; omega)))
            have HP3 := Lib.hid hr
            have HS3 : Hid (Sy w3 go len 0 (Srt.srt Pk.key L)) := Lib.hid ((HSY.out.one HP.out ho).perm (Srt.srt_perm L))
            have HC3 := Lib.hid (HCS.out.keeps ho (by have := HGC2.out.2; omega))
            have HZ3 := Lib.hid (show go + 1 ≤ w3.heap.size by have := ho.size; have := HGO.out.2; omega)
            have HPC : Hid (pcs (Srt.srt Pk.key L) = Srt.srt Pkg.ky (Pkg.coins (cntN f) len)) := Lib.hid (by rw [pcs_srt, Q2.out])
            have HLN : Hid ((Srt.srt Pk.key L).length = N) := Lib.hid (by rw [Srt.srt_length]; exact HN.out)
            clear hr ho HSY HCS HP HX2 HSO Q1b
            generalize Srt.srt Pk.key L = L2 at HP3 HS3 HPC HLN
            have HCL := Lib.hid (cloneP_any gc co L2 w3 HP3.out (by rw [HLN.out]; omega) (by rw [HLN.out]; omega))
            rw [HLN.out] at HCL
            have HNN := HLN
            go_wp2_with fail
            refine HCL.out.mono ?_
            rintro e w4 ⟨⟨g, cg, rfl, hp4, hg4, hc4⟩, hx4⟩
            have HL4 : Hid (LSt w w4 go gc len 0 L2 L2 g) := Lib.hid ⟨HX3.out.trans hx4, HP3.out.ext hx4, hp4, HS3.out.ext hx4, HS3.out.ext hx4, HC3.out.keeps (S := fun _ => False) hx4.keeps id, by have := HGC2.out.1; have := HB0.out; omega, HGC2.out.2, by have := HZ3.out; omega⟩
            clear hp4 hg4 hx4 HX3 HP3 HS3 HC3 HZ3 HCL
            have e7 : (most : Int) - 1 = ((most - 1 : Nat) : Int) := by omega
            obtain ⟨D, hD⟩ : ∃ D, most - 1 = D := ⟨_, rfl⟩
            rw [hD] at e7
            have wD : ∀ z, z = (D : Int) → IntKind.i64.wrap z = z := by intro z hz; rw [IntKind.wrap_i64]; omega
            have HD := Lib.hid hD
            have hDb : D ≤ 14 := by omega
            clear hD
            go_wp2_with fail
            go_loopw [10, 80] (fun v c wr => ∃ (d g cg m : Nat), v = .slice (some ⟨g, 0, none⟩) m cg ∧ c = .int .i64 d ∧ d ≤ D ∧ m ≤ cg ∧ Hid (∃ R : List Pk, R.length = m ∧ N ≤ m ∧ m ≤ 2 * N ∧ pcs R = Pkg.row (Srt.srt Pkg.ky (Pkg.coins (cntN f) len)) d ∧ LSt w wr go gc len d L2 R g)) (fun _ c _ => D - (intOf c).toNat)
            case atStart => exact ⟨0, g, cg, N, rfl, rfl, by omega, hc4, Lib.hid ⟨L2, HLN.out, by omega, by omega, HPC.out, HL4.out⟩⟩
            case round =>
              clear HL4
              obtain ⟨d, g, cg, m, rfl, rfl, hd, hmc, HR⟩ := hrel
              by_cases hdD : d < D
              · have t8 : decide ((d : Int) < (D : Int)) = true := decide_eq_true (by omega)
                obtain ⟨R, hRm, hm1, hm2, hpr, hls⟩ := HR.out
                have HRM := Lib.hid hRm
                have HPR := Lib.hid hpr
                have HLS := Lib.hid hls
                clear hRm hpr hls HR
                rename World => wl
                go_wp2_with fail
                go_loopw [11, 12] (fun v c wz => ∃ k i : Nat, c = .int .i64 i ∧ 2 * k = i ∧ i ≤ m ∧ Hid (∃ Q : List Pk, Q.length = k ∧ wz.ownsRow wl.heap.size 134 2 v k (pkL Q) ∧ pcs Q = (Pkg.prs (pcs R)).take k ∧ Sy wz go len (d + 1) Q) ∧ Hid (Ext wl wz)) (fun _ c _ => m - (intOf c).toNat)
                case atStart => exact ⟨0, 0, rfl, rfl, by omega, Lib.hid ⟨[], rfl, World.ownsRow_nil _ _ _ _, rfl, by intro p hp; cases hp⟩, Lib.hid (Ext.refl _)⟩
                case round =>
                  obtain ⟨k, i, rfl, hki, him, HQ, HE2⟩ := hrel
                  obtain ⟨j, hj⟩ : ∃ j, i + 1 = j := ⟨_, rfl⟩
                  have ej : (i : Int) + 1 = (j : Int) := by omega
                  have wj : ∀ z, z = (j : Int) → IntKind.i64.wrap z = z := by intro z hz; rw [IntKind.wrap_i64]; omega
                  by_cases hjm : j < m
                  · have t9 : decide ((j : Int) < (m : Int)) = true := decide_eq_true (by omega)
                    obtain ⟨Q, hQk, hQo, hQp, hQs⟩ := HQ.out
                    obtain ⟨xo, co2, rfl⟩ := lit_row hQo
                    have hRm := HRM.out
                    obtain ⟨x, hx⟩ : ∃ x, R[i]? = some x := ⟨_, List.getElem?_eq_getElem (by omega)⟩
                    obtain ⟨y, hy⟩ : ∃ y, R[j]? = some y := ⟨_, List.getElem?_eq_getElem (by omega)⟩
                    have HGX := Lib.hid hx
                    have HGY := Lib.hid hy
                    have hxm := List.mem_of_getElem? hx
                    have hym := List.mem_of_getElem? hy
                    have HMX := Lib.hid hxm
                    have HMY := Lib.hid hym
                    have HGL := Lib.hid HLS.out.rp.lt
                    have HKI := Lib.hid hki
                    obtain ⟨i2, hi2⟩ : ∃ i2, i + 2 = i2 := ⟨_, rfl⟩
                    have ei2 : (i : Int) + 2 = (i2 : Int) := by omega
                    have wi2 : ∀ z, z = (i2 : Int) → IntKind.i64.wrap z = z := by intro z hz; rw [IntKind.wrap_i64]; omega
                    have HI2 := Lib.hid hi2
                    have HLQ : Hid (LSt w wr go gc len d L2 R g) := Lib.hid (HLS.out.step HE2.out)
                    obtain ⟨hsx, hx1, hx2, _⟩ := HLQ.out.syR x hxm
                    obtain ⟨hsy, hy1, hy2, _⟩ := HLQ.out.syR y hym
                    have h2d : 2 ^ d ≤ 16384 := Nat.le_trans (Nat.pow_le_pow_right (by decide) (show d ≤ 14 by omega)) (by decide)
                    obtain ⟨cs, hcs⟩ : ∃ cs, x.c + y.c = cs := ⟨_, rfl⟩
                    have ecs : (x.c : Int) + (y.c : Int) = (cs : Int) := by omega
                    have wcs : ∀ z, z = (cs : Int) → IntKind.i64.wrap z = z := by intro z hz; rw [IntKind.wrap_i64]; omega
                    obtain ⟨hsx0, sgx, csx, hax, hnx, _⟩ := hsx.1
                    obtain ⟨hsy0, sgy, csy, hay, hny, _⟩ := hsy.1
                    have HIX := Lib.hid hsx.1
                    have HIY := Lib.hid hsy.1
                    have HPX := Lib.hid (show (pcs Q ++ [⟨cs, x.s ++ y.s⟩]) = (Pkg.prs (pcs R)).take (k + 1) by
                      have h1 := prs_get (pcs R) k x.pc y.pc (by rw [hki]; exact pcs_get hx) (by rw [hki, hj]; exact pcs_get hy)
                      have h2 := (List.getElem?_eq_some_iff.1 h1)
                      obtain ⟨h3, h4⟩ := h2
                      rw [List.take_succ_eq_append_getElem h3, h4, hQp, ← hcs]; rfl)
                    have HSL := Lib.hid (show x.s.length + y.s.length ≤ 32768 by omega)
                    have HQO := Lib.hid hQo
                    have HQS := Lib.hid hQs
                    have HQK := Lib.hid hQk
                    have HCS2 := Lib.hid hcs
                    have HXN := Lib.hid (And.intro hax (And.intro hay (And.intro hnx hny)))
                    have lj : j < m := hjm
                    have li : i < m := by omega
                    clear hx hy hxm hym hQk hQo hQp hQs hsx hsy hx1 hx2 hy1 hy2 h2d hcs hRm hsx0 hsy0 hax hay hnx hny hj hki hi2 HQ
                    go_wp2_with fail
                    have HLX : Hid (Ext wl wr) := HE2
                    have HQOx := HQO
                    have HQSx := HQS
                    refine wp_region_held_drew (S := fun w' => w'.cell? ⟨g, i * 2, none⟩ = some (.int .i64 (x.c : Int)) ∧ w'.cell? ⟨g, i * 2 + 1, none⟩ = some (.slice x.a x.n x.k) ∧ w'.cell? ⟨g, j * 2, none⟩ = some (.int .i64 (y.c : Int)) ∧ w'.cell? ⟨g, j * 2 + 1, none⟩ = some (.slice y.a y.n y.k)) (by kernel_rfl) ⟨(PR.get HLQ.out.rp HGX.out).1, (PR.get HLQ.out.rp HGX.out).2, (PR.get HLQ.out.rp HGY.out).1, (PR.get HLQ.out.rp HGY.out).2⟩ (fun hHeld => ?_)
                    clear hHeld
                    refine anyH_world (fun wz => Ext wr wz) (show Ext wr wr.drew from Below.drew (Ext.refl wr)) ?_
                    rintro v2 h
                    have HLQ2 := Lib.hid (HLQ.out.step h)
                    have HLX2 := Lib.hid (HLX.out.trans h)
                    have HQO2 := Lib.hid (ownsRow_kept HQOx.out h.keeps (fun _ _ => id))
                    have HQS2 := Lib.hid (HQSx.out.ext h)
                    clear h
                    have hHeld : v2.cell? ⟨g, i * 2, none⟩ = some (.int .i64 (x.c : Int)) ∧ v2.cell? ⟨g, i * 2 + 1, none⟩ = some (.slice x.a x.n x.k) ∧ v2.cell? ⟨g, j * 2, none⟩ = some (.int .i64 (y.c : Int)) ∧ v2.cell? ⟨g, j * 2 + 1, none⟩ = some (.slice y.a y.n y.k) := ⟨(PR.get HLQ2.out.rp HGX.out).1, (PR.get HLQ2.out.rp HGX.out).2, (PR.get HLQ2.out.rp HGY.out).1, (PR.get HLQ2.out.rp HGY.out).2⟩
                    refine tkH 0 (v := ?_) rfl hHeld ?_ ?_
                    rotate_left
                    · intro w hSw
                      (try dsimp only at hSw)
                      go_split_ands
                      go_simp
                      (try with_reducible rfl)
                    try simp only [Act.put, xa, xb, xc, xd, xe, xf]
                    refine tkH 1 (v := ?_) rfl hHeld ?_ ?_
                    rotate_left
                    · intro w hSw
                      (try dsimp only at hSw)
                      go_split_ands
                      go_simp
                      (try with_reducible rfl)
                    try simp only [Act.put, xa, xb, xc, xd, xe, xf]
                    refine tkH 2 (v := ?_) rfl hHeld ?_ ?_
                    rotate_left
                    · intro w hSw
                      (try dsimp only at hSw)
                      go_split_ands
                      go_simp
                      (try with_reducible rfl)
                    try simp only [Act.put, xa, xb, xc, xd, xe, xf]
                    refine tkH 3 (v := ?_) rfl hHeld ?_ ?_
                    rotate_left
                    · intro w hSw
                      (try dsimp only at hSw)
                      go_split_ands
                      go_simp
                      (try with_reducible rfl)
                    try simp only [Act.put, xa, xb, xc, xd, xe, xf]
                    refine tkH 4 (v := ?_) rfl hHeld ?_ ?_
                    rotate_left
                    · intro w hSw
                      (try dsimp only at hSw)
                      go_split_ands
                      go_simp
                      (try with_reducible rfl)
                    try simp only [Act.put, xa, xb, xc, xd, xe, xf]
                    refine tkH 5 (v := ?_) rfl hHeld ?_ ?_
                    rotate_left
                    · intro w hSw
                      (try dsimp only at hSw)
                      go_split_ands
                      go_simp
                      (try with_reducible rfl)
                    try simp only [Act.put, xa, xb, xc, xd, xe, xf]
                    refine tkH 6 (v := ?_) rfl hHeld ?_ ?_
                    rotate_left
                    · intro w hSw
                      (try dsimp only at hSw)
                      go_split_ands
                      go_simp
                      (try with_reducible rfl)
                    try simp only [Act.put, xa, xb, xc, xd, xe, xf]
                    refine tkH 7 (v := ?_) rfl hHeld ?_ ?_
                    rotate_left
                    · intro w hSw
                      (try dsimp only at hSw)
                      go_split_ands
                      go_simp
                      (try with_reducible rfl)
                    try simp only [Act.put, xa, xb, xc, xd, xe, xf]
                    refine tkH 8 (v := ?_) rfl hHeld ?_ ?_
                    rotate_left
                    · intro w hSw
                      (try dsimp only at hSw)
                      go_split_ands
                      go_simp
                      (try with_reducible rfl)
                    try simp only [Act.put, xa, xb, xc, xd, xe, xf]
                    refine tkH 9 (v := ?_) rfl hHeld ?_ ?_
                    rotate_left
                    · intro w hSw
                      (try dsimp only at hSw)
                      go_split_ands
                      go_simp
                      (try with_reducible rfl)
                    try simp only [Act.put, xa, xb, xc, xd, xe, xf]
                    refine tkH 10 (v := ?_) rfl hHeld ?_ ?_
                    rotate_left
                    · intro w hSw
                      (try dsimp only at hSw)
                      go_split_ands
                      go_simp
                      (try with_reducible rfl)
                    try simp only [Act.put, xa, xb, xc, xd, xe, xf]
                    refine tkH 11 (v := ?_) rfl hHeld ?_ ?_
                    rotate_left
                    · intro w hSw
                      (try dsimp only at hSw)
                      go_split_ands
                      go_simp
                      (try with_reducible rfl)
                    try simp only [Act.put, xa, xb, xc, xd, xe, xf]
                    refine tkH 12 (v := ?_) rfl hHeld ?_ ?_
                    rotate_left
                    · intro w hSw
                      (try dsimp only at hSw)
                      go_split_ands
                      go_simp
                      (try with_reducible rfl)
                    try simp only [Act.put, xa, xb, xc, xd, xe, xf]
                    refine tkH 13 (v := ?_) rfl hHeld ?_ ?_
                    rotate_left
                    · intro w hSw
                      (try dsimp only at hSw)
                      go_split_ands
                      go_simp
                      (try with_reducible rfl)
                    try simp only [Act.put, xa, xb, xc, xd, xe, xf]
                    refine tkH 14 (v := ?_) rfl hHeld ?_ ?_
                    rotate_left
                    · intro w hSw
                      (try dsimp only at hSw)
                      go_split_ands
                      go_simp
                      (try with_reducible rfl)
                    try simp only [Act.put, xa, xb, xc, xd, xe, xf]
                    refine tkH 15 (v := ?_) rfl hHeld ?_ ?_
                    rotate_left
                    · intro w hSw
                      (try dsimp only at hSw)
                      go_split_ands
                      go_simp
                      (try with_reducible rfl)
                    try simp only [Act.put, xa, xb, xc, xd, xe, xf]
                    refine tkH 16 (v := ?_) rfl hHeld ?_ ?_
                    rotate_left
                    · intro w hSw
                      (try dsimp only at hSw)
                      go_split_ands
                      go_simp
                      (try with_reducible rfl)
                    try simp only [Act.put, xa, xb, xc, xd, xe, xf]
                    refine tkH 17 (v := ?_) rfl hHeld ?_ ?_
                    rotate_left
                    · intro w hSw
                      (try dsimp only at hSw)
                      go_split_ands
                      go_simp
                      (try with_reducible rfl)
                    try simp only [Act.put, xa, xb, xc, xd, xe, xf]
                    refine tkH 18 (v := ?_) rfl hHeld ?_ ?_
                    rotate_left
                    · intro w hSw
                      (try dsimp only at hSw)
                      go_split_ands
                      go_simp
                      (try with_reducible rfl)
                    try simp only [Act.put, xa, xb, xc, xd, xe, xf]
                    refine tkH 19 (v := ?_) rfl hHeld ?_ ?_
                    rotate_left
                    · intro w hSw
                      (try dsimp only at hSw)
                      go_split_ands
                      go_simp
                      (try with_reducible rfl)
                    try simp only [Act.put, xa, xb, xc, xd, xe, xf]
                    refine tkH 20 (v := ?_) rfl hHeld ?_ ?_
                    rotate_left
                    · intro w hSw
                      (try dsimp only at hSw)
                      go_split_ands
                      go_simp
                      (try with_reducible rfl)
                    try simp only [Act.put, xa, xb, xc, xd, xe, xf]
                    refine tkH 21 (v := ?_) rfl hHeld ?_ ?_
                    rotate_left
                    · intro w hSw
                      (try dsimp only at hSw)
                      go_split_ands
                      go_simp
                      (try with_reducible rfl)
                    try simp only [Act.put, xa, xb, xc, xd, xe, xf]
                    refine tkH 22 (v := ?_) rfl hHeld ?_ ?_
                    rotate_left
                    · intro w hSw
                      (try dsimp only at hSw)
                      go_split_ands
                      go_simp
                      (try with_reducible rfl)
                    try simp only [Act.put, xa, xb, xc, xd, xe, xf]
                    refine tkH 23 (v := ?_) rfl hHeld ?_ ?_
                    rotate_left
                    · intro w hSw
                      (try dsimp only at hSw)
                      go_split_ands
                      go_simp
                      (try with_reducible rfl)
                    try simp only [Act.put, xa, xb, xc, xd, xe, xf]
                    refine wpAnyH_ready (rs := [24]) (by kernel_rfl) (by simp) ?_
                    refine AllReadyH.cons rfl (fun KK hK => ?_) AllReadyH.nil
                    clear hHeld
                    go_simp
                    refine hK.out _ _ ⟨(PR.get (HLQ2.out.rp.ext ((Ext.refl v2).alloc _)) HGX.out).1, (PR.get (HLQ2.out.rp.ext ((Ext.refl v2).alloc _)) HGX.out).2, (PR.get (HLQ2.out.rp.ext ((Ext.refl v2).alloc _)) HGY.out).1, (PR.get (HLQ2.out.rp.ext ((Ext.refl v2).alloc _)) HGY.out).2⟩ (fun hHeld => ?_)
                    clear hK KK hHeld
                    try simp only [Act.put, xa, xb, xc, xd, xe, xf]
                    refine anyH_world (fun wz => Ext v2 wz ∧ wz.cell? ⟨v2.heap.size, 0, none⟩ = some (.slice x.a x.n x.k) ∧ wz.cell? ⟨v2.heap.size, 1, none⟩ = some (.slice y.a y.n y.k)) ⟨(Ext.refl v2).alloc _, by simp, by simp⟩ ?_
                    rintro v3 ⟨hE, hc0, hc1⟩
                    have HLQ3 := Lib.hid (HLQ2.out.step hE)
                    have HLX3 := Lib.hid (HLX2.out.trans hE)
                    have HQO3 := Lib.hid (ownsRow_kept HQO2.out hE.keeps (fun _ _ => id))
                    have HQS3 := Lib.hid (HQS2.out.ext hE)
                    have HC0 := Lib.hid hc0
                    have HC1 := Lib.hid hc1
                    clear hE hc0 hc1
                    have hHeld : v3.cell? ⟨g, i * 2, none⟩ = some (.int .i64 (x.c : Int)) ∧ v3.cell? ⟨g, i * 2 + 1, none⟩ = some (.slice x.a x.n x.k) ∧ v3.cell? ⟨g, j * 2, none⟩ = some (.int .i64 (y.c : Int)) ∧ v3.cell? ⟨g, j * 2 + 1, none⟩ = some (.slice y.a y.n y.k) := ⟨(PR.get HLQ3.out.rp HGX.out).1, (PR.get HLQ3.out.rp HGX.out).2, (PR.get HLQ3.out.rp HGY.out).1, (PR.get HLQ3.out.rp HGY.out).2⟩
                    refine wpAnyH_ready (rs := [25]) (by kernel_rfl) (by simp) ?_
                    refine AllReadyH.cons rfl (fun KK hK => ?_) AllReadyH.nil
                    clear hHeld
                    go_simp
                    refine (concat_any v2.heap.size 2 _ (fun q => if q = 0 then .slice x.a x.n x.k else .slice y.a y.n y.k) (fun q => if q = 0 then x.s.map (fun i : Nat => (i : Int)) else y.s.map (fun i : Nat => (i : Int))) v3 (by omega) (by omega) ?ca ?cb ?cc).mono ?cd
                    case ca =>
                      intro q hq
                      match q, hq with
                      | 0, _ => exact HC0.out
                      | 1, _ => exact HC1.out
                    case cb =>
                      intro q hq
                      match q, hq with
                      | 0, _ => exact ((HLQ3.out.syR x HMX.out).1.1).ir
                      | 1, _ => exact ((HLQ3.out.syR y HMY.out).1.1).ir
                    case cc => have := HSL.out; simp [concL]; omega
                    rintro e v4 ⟨⟨vv, rfl, hvo⟩, h⟩
                    have hvl : (concL (fun q => if q = 0 then x.s.map (fun i : Nat => (i : Int)) else y.s.map (fun i : Nat => (i : Int))) 2) = (x.s ++ y.s).map (fun i : Nat => (i : Int)) := by simp [concL]
                    rw [hvl] at hvo
                    obtain ⟨sg, sk, rfl, hsk, hsl⟩ := ownsRow_some hvo (by have := HIX.out.1; simp; omega)
                    have HSYN : Hid (SyAt v4 ⟨cs, some ⟨sg, 0, none⟩, (x.s ++ y.s).length, sk, x.s ++ y.s⟩ ∧ v3.heap.size ≤ sg) := Lib.hid (syAt_own cs hvo (by have := HIX.out.1; simp; omega) (by simp))
                    simp only [List.length_map] at *
                    have HLQ4 := Lib.hid (HLQ3.out.step h)
                    have HLX4 := Lib.hid (HLX3.out.trans h)
                    have HQO4 := Lib.hid (ownsRow_kept HQO3.out h.keeps (fun _ _ => id))
                    have HQS4 := Lib.hid (HQS3.out.ext h)
                    clear hvo hvl hsk hsl h
                    go_simp
                    refine hK.out _ _ ⟨(PR.get HLQ4.out.rp HGX.out).1, (PR.get HLQ4.out.rp HGX.out).2, (PR.get HLQ4.out.rp HGY.out).1, (PR.get HLQ4.out.rp HGY.out).2⟩ (fun hHeld => ?_)
                    clear hK KK
                    try simp only [Act.put, xa, xb, xc, xd, xe, xf]
                    refine tkH 26 (v := ?_) rfl hHeld ?_ ?_
                    rotate_left
                    · intro w hSw
                      (try dsimp only at hSw)
                      go_split_ands
                      go_simp
                      (try with_reducible rfl)
                    try simp only [Act.put, xa, xb, xc, xd, xe, xf]
                    refine wpAnyH_ready (rs := [27]) (by kernel_rfl) (by simp) ?_
                    refine AllReadyH.cons rfl (fun KK hK => ?_) AllReadyH.nil
                    clear hHeld
                    go_simp
                    refine hK.out _ _ ⟨(PR.get (HLQ4.out.rp.ext ((Ext.refl v4).alloc _)) HGX.out).1, (PR.get (HLQ4.out.rp.ext ((Ext.refl v4).alloc _)) HGX.out).2, (PR.get (HLQ4.out.rp.ext ((Ext.refl v4).alloc _)) HGY.out).1, (PR.get (HLQ4.out.rp.ext ((Ext.refl v4).alloc _)) HGY.out).2⟩ (fun hHeld => ?_)
                    clear hK KK hHeld
                    try simp only [Act.put, xa, xb, xc, xd, xe, xf]
                    refine anyH_world (fun wz => Ext v4 wz ∧ Bk wz v4.heap.size #[.int .i64 (cs : Int), .slice (some ⟨sg, 0, none⟩) (x.s ++ y.s).length sk]) ⟨(Ext.refl v4).alloc _, by rw [List.length_append]; exact Bk.at rfl⟩ ?_
                    rintro v5 ⟨hE, hB⟩
                    have HLQ5 := Lib.hid (HLQ4.out.step hE)
                    have HLX5 := Lib.hid (HLX4.out.trans hE)
                    have HQO5 := Lib.hid (ownsRow_kept HQO4.out hE.keeps (fun _ _ => id))
                    have HQS5 := Lib.hid (HQS4.out.ext hE)
                    have HSYN2 := Lib.hid (HSYN.out.1.ext hE)
                    have HBB := Lib.hid hB
                    clear hE hB
                    obtain ⟨v', w', hr, h2, h3, h4, h5⟩ := run_append_own_at (P := Tryd.prog) v5 wl.heap.size 132 132 134 i0 (.agg #[.int .i64 0, .slice none 0 0]) 2 32 Tryd.underlying132 hi0 hz0 hz1 hz2 rfl (by decide) _ k _ HQO5.out ⟨v4.heap.size, 0, none⟩ 1 1 [.int .i64 (cs : Int), .slice (some ⟨sg, 0, none⟩) (x.s ++ y.s).length sk] rfl (fun j u h => by
                        rw [add_plain]; exact (HBB.out.cell _).trans (by simpa using h)) (by intro u hu; simp at hu; rcases hu with rfl | rfl <;> rfl) (by have := HKI.out; unfold maxLen; omega) (by have := HKI.out; omega) HLX5.out.size
                    have H2 := Lib.hid h2
                    have H3 := Lib.hid h3
                    clear h2 h3 h4 h5
                    have hHeld : v5.cell? ⟨g, i * 2, none⟩ = some (.int .i64 (x.c : Int)) ∧ v5.cell? ⟨g, i * 2 + 1, none⟩ = some (.slice x.a x.n x.k) ∧ v5.cell? ⟨g, j * 2, none⟩ = some (.int .i64 (y.c : Int)) ∧ v5.cell? ⟨g, j * 2 + 1, none⟩ = some (.slice y.a y.n y.k) := ⟨(PR.get HLQ5.out.rp HGX.out).1, (PR.get HLQ5.out.rp HGX.out).2, (PR.get HLQ5.out.rp HGY.out).1, (PR.get HLQ5.out.rp HGY.out).2⟩
                    refine wpAnyH_ready (rs := [28]) (by kernel_rfl) (by simp) ?_
                    refine AllReadyH.cons rfl (fun KK hK => ?_) AllReadyH.nil
                    clear hHeld
                    rw [if_pos (show _ = true by kernel_rfl)]
                    unfold Oper.wp execOp
                    simp only [resolve, invoke, builtin, Sem.run_bind, Sem.run_pure, Result.andThen_ok, List.map_toArray, List.map_cons, List.map_nil, Act.eval, List.getElem_toArray, List.getElem_cons_succ, List.getElem_cons_zero]
                    simp only [Array.getD_eq_getD_getElem?, List.getElem?_toArray, List.getElem?_cons_succ, List.getElem?_cons_zero, Option.getD_some, hr, Result.andThen_ok, Oper.upon]
                    have HL9 : Hid (LSt w w' go gc len d L2 R g) := Lib.hid (HLQ5.out.grown HLX5.out.size HGL.out HQO5.out H3.out)
                    have HX9 : Hid (Ext wl w') := Lib.hid (Below.trans HLX5.out ((Keeps.grown H3.out).below HLX5.out.size (fun k hk e => by have := (HQO5.out.lt k e).1; omega)))
                    have HS9 : Hid (Sy w' go len (d + 1) (Q ++ [⟨cs, some ⟨sg, 0, none⟩, (x.s ++ y.s).length, sk, x.s ++ y.s⟩])) := Lib.hid (Sy.grown (HQS5.out.app (by have h := Sy.pair HLQ5.out.syR HMX.out HMY.out (by rw [HCS2.out]; exact HSYN2.out) (by have h1 := HSYN.out.2; have h2 := HLQ3.out.o2; have h3 := HLQ3.out.rp.lt; omega); rw [HCS2.out] at h; exact h)) HQO5.out H3.out)
                    refine hK.out _ _ ⟨(PR.get HL9.out.rp HGX.out).1, (PR.get HL9.out.rp HGX.out).2, (PR.get HL9.out.rp HGY.out).1, (PR.get HL9.out.rp HGY.out).2⟩ (fun hHeld => ?_)
                    clear hK KK hr
                    try simp only [Act.put, xa, xb, xc, xd, xe, xf]
                    refine tkH 29 (v := ?_) rfl hHeld ?_ ?_
                    rotate_left
                    · intro w hSw
                      (try dsimp only at hSw)
                      go_split_ands
                      go_simp
                      (try with_reducible rfl)
                    try simp only [Act.put, xa, xb, xc, xd, xe, xf]
                    refine wpAnyH_done (by kernel_rfl) ?_ _
                    clear hHeld
                    clear HLQ5 HLX5 HQO5 HQS5 HLQ HLX HQOx HQSx
                    go_wp2_with fail
                    refine ⟨⟨k + 1, i2, rfl, by have := HKI.out; have := HI2.out; omega, by have := HI2.out; omega, Lib.hid ⟨Q ++ [⟨cs, some ⟨sg, 0, none⟩, (x.s ++ y.s).length, sk, x.s ++ y.s⟩], by rw [List.length_append, HQK.out]; rfl, by rw [pkL_append]; exact H2.out, by rw [pcs_append]; exact HPX.out, HS9.out⟩, HX9⟩, by have := HI2.out; simp [intOf]; omega⟩
                  · have t9 : decide ((j : Int) < (m : Int)) = false := decide_eq_false (by omega)
                    obtain ⟨Q, hQk, hQo, hQp, hQs⟩ := HQ.out
                    have hk2 : k = m / 2 := by omega
                    have hQl : pcs Q = Pkg.prs (pcs R) := by
                      rw [hQp, List.take_of_length_le]
                      rw [Pkg.prs_length, pcs_length, HRM.out]
                      omega
                    obtain ⟨gq, cq, hv, hgq, hPQ, _⟩ := PR.of_own (l := Q) (by rw [hQk]; exact hQo) (by omega)
                    rw [hQk] at hv
                    subst hv
                    have HLQ : Hid (LSt w wr go gc len d L2 R g) := Lib.hid (HLS.out.step HE2.out)
                    have HPQ := Lib.hid hPQ
                    have HQL := Lib.hid hQl
                    have HQK := Lib.hid (And.intro hQk hk2)
                    have HQS := Lib.hid hQs
                    have HJM := Lib.hid hjm
                    have n1 : ¬ j < m := hjm
                    clear hQk hQo hQp hQs hQl hPQ hk2 HQ hgq
                    have HCC := Lib.hid (concatP_any wr.heap.size 2 2 (fun q => if q = 0 then gc else gq) (fun q => if q = 0 then co else cq) (fun q => if q = 0 then L2 else Q) (wr.alloc (.cells #[.slice (some ⟨gc, 0, none⟩) N co, .slice (some ⟨gq, 0, none⟩) k cq] 132)) (by omega) (by omega)
                      (by
                        intro q hq
                        have hb : Bk (wr.alloc (.cells #[.slice (some ⟨gc, 0, none⟩) N co, .slice (some ⟨gq, 0, none⟩) k cq] 132)) wr.heap.size #[.slice (some ⟨gc, 0, none⟩) N co, .slice (some ⟨gq, 0, none⟩) k cq] := Bk.at rfl
                        match q, hq with
                        | 0, _ => exact (hb.cell 0).trans (by simp [HLN.out])
                        | 1, _ => exact (hb.cell 1).trans (by simp [HQK.out.1]))
                      (by
                        intro q hq
                        match q, hq with
                        | 0, _ => exact ⟨by simp only [if_true]; rw [HLN.out]; omega, HLQ.out.cp.ext ((Ext.refl wr).alloc _)⟩
                        | 1, _ => exact ⟨by have := HQK.out; show 0 < Q.length; omega, HPQ.out.ext ((Ext.refl wr).alloc _)⟩)
                      (by have := HQK.out; simp [concP, HLN.out]; omega))
                    obtain ⟨m2, hm2'⟩ : ∃ m2, N + k = m2 := ⟨_, rfl⟩
                    have HM2 := Lib.hid (show N + k = m2 ∧ N ≤ m2 ∧ m2 ≤ 2 * N from ⟨hm2', by omega, by have := HQK.out.2; omega⟩)
                    clear hm2'
                    go_wp2_with fail
                    refine HCC.out.mono ?_
                    rintro e w5 ⟨⟨v5, rfl, hvo⟩, hE5⟩
                    have hcp : concP (fun q => if q = 0 then L2 else Q) 2 = L2 ++ Q := by simp [concP]
                    rw [hcp] at hvo
                    have hlen : (L2 ++ Q).length = m2 := by rw [List.length_append, HLN.out, HQK.out.1]; exact HM2.out.1
                    obtain ⟨g2, c2, hv5, hg2, hP5, hc5⟩ := PR.of_own hvo (by have := HM2.out; omega)
                    rw [hlen] at hv5 hc5
                    subst hv5
                    have HC5 := Lib.hid hc5
                    clear hc5
                    have HL5 : Hid (LSt w w5 go gc len (d + 1) L2 (L2 ++ Q) g2) := Lib.hid ((HLQ.out.step ((Ext.refl wr).alloc _)).renew hE5 hP5 (((HLQ.out.syL.le (d + 1)).app HQS.out).ext (((Ext.refl wr).alloc _).trans hE5)) (by have h1 := HLQ.out.o2; have h2 := HLQ.out.rp.lt; simp at hg2; omega))
                    have HS5 := Lib.hid (sort_any g2 m2 c2 (L2 ++ Q) w5 hlen (by have := HM2.out; omega) hP5)
                    have HPS : Hid (pcs (Srt.srt Pk.key (L2 ++ Q)) = Pkg.row (Srt.srt Pkg.ky (Pkg.coins (cntN f) len)) (d + 1)) := Lib.hid (by
                      rw [pcs_srt, pcs_append, HPC.out, HQL.out, Srt.srt_append, Srt.srt_of_up (Srt.srt_up _), HPR.out, Srt.srt_of_up (Pkg.prs_up (Pkg.row_up (Srt.srt_up _) d))]
                      rfl)
                    have HLEN : Hid ((Srt.srt Pk.key (L2 ++ Q)).length = m2) := Lib.hid (by rw [Srt.srt_length]; exact hlen)
                    clear hvo hcp hlen hg2 hP5 hE5 HCC
                    go_wp2_with fail
                    refine HS5.out.mono ?_
                    rintro e w6 ⟨rfl, hr6, ho6⟩
                    have HL6 : Hid (LSt w w6 go gc len (d + 1) L2 (Srt.srt Pk.key (L2 ++ Q)) g2) := Lib.hid (HL5.out.turn ho6 hr6 (Srt.srt_perm _))
                    clear hr6 ho6 HL5 HS5 HLQ HPQ HQS
                    have wd : ∀ z, z = ((d + 1 : Nat) : Int) → IntKind.i64.wrap z = z := by intro z hz; rw [IntKind.wrap_i64]; omega
                    go_wp2_with fail
                    refine ⟨⟨d + 1, g2, c2, m2, rfl, by simp, by omega, HC5.out, Lib.hid ⟨_, HLEN.out, HM2.out.2.1, HM2.out.2.2, HPS.out, HL6.out⟩⟩, by simp [intOf]; omega⟩
              · have t8 : decide ((d : Int) < (D : Int)) = false := decide_eq_false (by omega)
                obtain ⟨R, hRm, hm1', hm2', hpr, hls⟩ := HR.out
                have hdD2 : d = D := by omega
                have HDD := Lib.hid hdD2
                have HRM := Lib.hid hRm
                have HPR := Lib.hid hpr
                have HLS := Lib.hid hls
                have HLG := Lib.hid (show 2 * N - 2 ≤ m by
                  have h1 := Pkg.row_enough (C := Srt.srt Pkg.ky (Pkg.coins (cntN f) len)) (d := d) (by rw [Srt.srt_length]; unfold Pkg.coins; rw [List.length_map, HNU.out]; omega) (by
                    rw [Srt.srt_length]; unfold Pkg.coins
                    rw [List.length_map, HNU.out, hdD2, show D + 1 = most by have := HD.out; omega, HM.out]; omega)
                  rw [← hpr, pcs_length, hRm, Srt.srt_length] at h1
                  unfold Pkg.coins at h1
                  rw [List.length_map, HNU.out] at h1
                  exact h1)
                obtain ⟨z, hz⟩ : ∃ z, 2 * N - 2 = z := ⟨_, rfl⟩
                obtain ⟨y, hy⟩ : ∃ y, 2 * N = y := ⟨_, rfl⟩
                have ey : (2 : Int) * (N : Int) = (y : Int) := by omega
                have ez : (y : Int) - 2 = (z : Int) := by omega
                have wy : ∀ v, v = (y : Int) → IntKind.i64.wrap v = v := by intro v hv; rw [IntKind.wrap_i64]; omega
                have wz : ∀ v, v = (z : Int) → IntKind.i64.wrap v = v := by intro v hv; rw [IntKind.wrap_i64]; omega
                have HZ := Lib.hid hz
                have lzm : z ≤ cg := by have := HLG.out; omega
                have gzm : (z : Int) ≤ (cg : Int) := by omega
                have gz : (0 : Int) ≤ (z : Int) := by omega
                clear hRm hpr hls HR hz hy hdD2
                go_wp2_with fail
                go_loopw [132] (fun c wr => ∃ q : Nat, c = .int .i64 q ∧ q ≤ z ∧ Hid (Cnt w wr go len d R g q [])) (fun c _ => z - (intOf c).toNat)
                case atStart => exact ⟨0, rfl, by omega, Lib.hid ⟨HLS.out.rp, HLS.out.syR, HLS.out.ext, HLS.out.oc.congr (fun s _ => by simp [Pkg.syms]), by have h1 := HLS.out.o2; have h2 := HLS.out.rp.lt; omega, by have h1 := HLS.out.base; have h2 := HLS.out.o1; omega, by have h1 := HLS.out.o2; omega⟩⟩
                case round =>
                  obtain ⟨q, rfl, hqz, HW⟩ := hrel
                  by_cases hlt2 : q < z
                  · have t9 : decide ((q : Int) < (z : Int)) = true := decide_eq_true (by omega)
                    obtain ⟨p, hpq⟩ : ∃ p, R[q]? = some p := ⟨_, List.getElem?_eq_getElem (by have := HRM.out; have := HLG.out; have := HZ.out; omega)⟩
                    obtain ⟨k2, k3⟩ := HW.out.rp.get hpq
                    have HPM := Lib.hid (List.mem_of_getElem? hpq)
                    obtain ⟨hsa, hpc, hpl, hpsl⟩ := HW.out.sy p HPM.out
                    obtain ⟨_, sg, css, ha, hn, _⟩ := hsa.1
                    obtain ⟨ps, hps⟩ : ∃ n, p.s.length = n := ⟨_, rfl⟩
                    rw [ha, hn, hps] at k3
                    have hgb := HW.out.rp.lt
                    have lq : q < z := hlt2
                    have HSA := Lib.hid (And.intro ha hps)
                    have HPQ := Lib.hid hpq
                    have HPL := Lib.hid hpl
                    have hpsb : ps ≤ 16384 := by
                      have h6 : 2 ^ d ≤ 16384 := Nat.le_trans (Nat.pow_le_pow_right (by decide) (show d ≤ 14 by omega)) (by decide)
                      omega
                    clear hpq hsa ha hn hps hpsl hpl hpc
                    go_wp2_with fail
                    go_loopw [139] (fun c wr => ∃ e : Nat, c = .int .i64 e ∧ e ≤ ps ∧ Hid (Cnt w wr go len d R g q (p.s.take e))) (fun c _ => ps - (intOf c).toNat)
                    case atStart => exact ⟨0, rfl, by omega, Lib.hid (HW.out.step (by repeat (first | exact Ext.refl _ | refine Below.setCell ?_ (by simp) _ | refine Ext.alloc ?_ _)))⟩
                    case round =>
                      clear HW
                      obtain ⟨e, rfl, hep, HW⟩ := hrel
                      by_cases hlt3 : e < ps
                      · have t10 : decide ((e : Int) < (ps : Int)) = true := decide_eq_true (by omega)
                        obtain ⟨hsa, _, _, hpsl⟩ := HW.out.sy p HPM.out
                        obtain ⟨sg', hsg, k4⟩ := hsa.1.cell (j := e) (by have := HSA.out.2; omega)
                        have hsg2 : sg' = sg := by
                          have := HSA.out.1
                          rw [hsg] at this
                          injection this with this
                          injection this
                        subst hsg2
                        obtain ⟨s, hs⟩ : ∃ s, p.s.getD e 0 = s := ⟨_, rfl⟩
                        have hes : e < p.s.length := by have := HSA.out.2; omega
                        have hs2 : p.s[e] = s := by rw [← hs, List.getD_eq_getElem?_getD, List.getElem?_eq_getElem hes]; rfl
                        have hsl : s < len := by rw [← hs2]; exact hpsl _ (List.getElem_mem hes)
                        rw [hs] at k4
                        obtain ⟨k5, k6⟩ := HW.out.oc s hsl
                        have HM9 := Lib.hid (HW.out.more hsl)
                        have hbd : (Pkg.syms ((pcs R).take q)).count s + (p.s.take e).count s ≤ 100000000 := by
                          have h1 := List.count_le_length (a := s) (l := Pkg.syms ((pcs R).take q))
                          have h2 := HW.out.sy.size q
                          have h3 := List.count_le_length (a := s) (l := p.s.take e)
                          have h4 : (p.s.take e).length ≤ p.s.length := by simp; omega
                          have h5 := HPL.out
                          have h6 : 2 ^ d ≤ 16384 := Nat.le_trans (Nat.pow_le_pow_right (by decide) (show d ≤ 14 by omega)) (by decide)
                          have h7 : q * 2 ^ d ≤ 600 * 16384 := Nat.mul_le_mul (by have := HZ.out; omega) h6
                          omega
                        have HT9 : Hid (p.s.take e ++ [s] = p.s.take (e + 1)) := Lib.hid (by rw [List.take_succ_eq_append_getElem hes, hs2])
                        obtain ⟨V, hV⟩ : ∃ V, (Pkg.syms ((pcs R).take q)).count s + (p.s.take e).count s = V := ⟨_, rfl⟩
                        simp only [hV] at k5 hbd HM9
                        have eV : (V : Int) + 1 = ((V + 1 : Nat) : Int) := by omega
                        obtain ⟨V2, hV2⟩ : ∃ V2, V + 1 = V2 := ⟨_, rfl⟩
                        rw [hV2] at eV HM9
                        have wV : ∀ v, v = (V2 : Int) → IntKind.i64.wrap v = v := by intro v hv; rw [IntKind.wrap_i64]; omega
                        clear hsa hpsl hsg hs hes hs2 hV hV2 hbd
                        go_wp2_with fail
                        refine ⟨⟨e + 1, by simp, by omega, Lib.hid (by rw [← HT9.out]; exact HM9.out)⟩, by simp [intOf]; omega⟩
                      · have t10 : decide ((e : Int) < (ps : Int)) = false := decide_eq_false (by omega)
                        have HN9 : Hid (Cnt w wr go len d R g (q + 1) []) := Lib.hid (by
                          have h := HW.out
                          rw [List.take_of_length_le (by have := HSA.out.2; omega)] at h
                          exact h.next HPQ.out)
                        clear HW
                        go_wp2_with fail
                        refine ⟨⟨q + 1, by simp, by omega, HN9⟩, by simp [intOf]; omega⟩
                  · have t9 : decide ((q : Int) < (z : Int)) = false := decide_eq_false (by omega)
                    go_wp2_with fail
                    go_ret2
                    refine ⟨HW.out.ext, .inr ⟨by rw [HNU.out, HM.out]; omega, go, rfl, ⟨(fun h => by cases h), fun a ha j hj => ?_⟩, HW.out.ge⟩⟩
                    injection ha with ha
                    subst ha
                    have hq2 : q = 2 * N - 2 := by have := HZ.out; omega
                    have hz : lenF f len most j = ((((Pkg.syms ((pcs R).take q)).count j + ([] : List Nat).count j : Nat)) : Int) := by
                      unfold lenF Pkg.lens
                      rw [if_neg (by rw [HNU.out]; omega), HNU.out, HPR.out, hq2, HD.out, HDD.out]
                      rfl
                    have hb := (lens_good f len most (fun j hj => (HF.out j hj).1) hl (by omega) (by omega) (by rw [HNU.out, HM.out]; omega)).1 j hj
                    rw [add_plain]
                    refine ⟨?_, by omega, by omega⟩
                    rw [hz]
                    exact (HW.out.oc j hj).1
end Go.Proofs.YtnhbjgmfbcedaaaDoor
namespace Go.Proofs.YtnhbjgmfbcedaaaDoor
open Go.RowKit
theorem mulMask (a : Nat) (ha : a < 18446744073709551616) : bits .and .u64 (a : Int) 4294967295 = ((a % 4294967296 : Nat) : Int) := by
  have h := bits_and_u64_nat a 4294967295 ha (by omega);rw [show a &&& 4294967295 = a % 4294967296 from Nat.and_two_pow_sub_one_eq_mod a 32] at h;exact h
theorem mul64_one (c : Nat) (hc : c ≤ 10000) (w : World) : Calls Tryd.prog 136 #[.int .u64 1, .int .u64 (c : Int)] w fun e w' => e = .returned (.tuple #[.int .u64 0, .int .u64 (c : Int)]) ∧ w' = w := by
  have m1 : bits .and .u64 1 4294967295 = 1 := by decide
  have m0 : bits .and .u64 0 4294967295 = 0 := by decide
  have mc : bits .and .u64 (c : Int) 4294967295 = (c : Int) := by rw [mulMask c (by omega)]; congr 1; omega
  have dc : (c : Int) / 4294967296 = 0 := by omega
  have wc_ : IntKind.u64.wrap (c : Int) = (c : Int) := by rw [IntKind.wrap_u64]; omega
  have w0_ : IntKind.u64.wrap 0 = 0 := by decide
  go_enter Tryd.func136, Tryd.ntmps136
  go_wp2
  go_ret2;exact ⟨rfl, rfl⟩
theorem mul_one (c : Nat) (hc : c ≤ 10000) (w : World) : Calls Tryd.prog 128 #[.int .u64 1, .int .u64 (c : Int)] w fun e w' => e = .returned (.tuple #[.int .u64 0, .int .u64 (c : Int)]) ∧ w' = w := by
  go_enter Tryd.func128, Tryd.ntmps128
  go_wp2_with fail;refine (mul64_one c hc w).mono ?_;rintro e w2 ⟨rfl, rfl⟩;go_wp2_with fail;go_ret2;exact ⟨rfl, rfl⟩
end Go.Proofs.YtnhbjgmfbcedaaaDoor
namespace Go.Proofs.YtnhbjgmfbcedaaaDoor
open Go.RowKit
theorem i64Sz : (Tryd.prog.info? 3).map (·.size) = some 1 := by kernel_rfl
def repI (c q : Nat) (s : Int) : List Value := List.replicate q (.int .i64 s) ++ List.replicate (c - q) (.int .i64 0)
theorem repI_step (c q k : Nat) (s : Int) (h : q + k ≤ c) : ((repI c q s).take q ++ List.replicate k (.int .i64 s) ++ (repI c q s).drop (q + k)) = repI c (q + k) s := by
 unfold repI;rw [List.take_left' (by simp), List.drop_append, List.drop_of_length_le (by simp), List.nil_append, List.length_replicate, List.drop_replicate, List.replicate_append_replicate];congr 2
 omega
theorem repI_len (c q : Nat) (s : Int) (h : q ≤ c) : (repI c q s).length = c := by unfold repI; simp; omega
theorem repI_made (c : Nat) (s : Int) : (madeCells #[Value.int .i64 0] c).toList = repI c 0 s := by
 unfold repI;apply List.ext_getElem
 ·simp [madeCells]
 ·intro i h1 h2;simp [madeCells, Nat.mod_one]
set_option linter.unusedSimpArgs false in
set_option maxHeartbeats 4000000 in
theorem repi_any (x c : Nat) (s : Int) (w : World) (hx : w.cell? ⟨x, 0, none⟩ = some (.int .i64 s)) (hc1 : 1 ≤ c) (hc : c ≤ 10000) :
  Calls Tryd.prog 109 #[.slice (some ⟨x, 0, none⟩) 1 1, .int .i64 (c : Int)] w fun e w' => (∃ g' c', e = .returned (.slice (some ⟨g', 0, none⟩) c c') ∧ Cv w' g' c (fun _ => .int .i64 s) ∧ w.heap.size ≤ g' ∧ g' < w'.heap.size) ∧ Ext w w' := by
 have hmk := run_make_row' (P := Tryd.prog) 31 3 (.int .i64 0) 8 Tryd.underlying31 i64info rfl .i64 .i64 c (by omega) (by omega);have n2 : ¬ (c : Int) < 0 := by omega
 have wu : IntKind.u64.wrap (c : Int) = (c : Int) := by rw [IntKind.wrap_u64]; omega
 have wi : IntKind.i64.wrap (c : Int) = (c : Int) := by rw [IntKind.wrap_i64]; omega
 have n3 : ¬ (9223372036854775807 : Int) < (c : Int) := by omega
 have HX := Lib.hid hx;clear hx;go_enter Tryd.func109, Tryd.ntmps109
 go_wp2_with fail;refine (mul_one c (by omega) w).mono ?_;rintro e w2 ⟨rfl, rfl⟩;go_upto_region 7 with fail;clear hmk n2 wu wi n3;have hg : (w2.alloc (.cells (madeCells #[.int .i64 0] c) 3)).heap[w2.heap.size]? = some (.cells (repI c 0 s).toArray 3 (0, 0)) := by
  rw [← repI_made, Array.toArray_toList];exact heap_alloc_new w2 _
 refine wp_world (fun wz => Hid (wz.heap[w2.heap.size]? = some (.cells (repI c 0 s).toArray 3 (0, 0))) ∧ Hid (Ext w2 wz) ∧ Hid (wz.cell? ⟨x, 0, none⟩ = some (.int .i64 s))) ⟨Lib.hid hg, Lib.hid (Ext.alloc (Ext.refl _) _), Lib.hid ((((Ext.refl w2).alloc _).keeps (S := fun _ => False) |>.cell (p := ⟨x, 0, none⟩) (World.block_lt_of_cell? w2 _ HX.out) id).trans HX.out)⟩ ?_;clear hg HX;obtain ⟨G, hG⟩ : ∃ G, w2.heap.size = G := ⟨_, rfl⟩;rw [hG];have HG := Lib.hid hG;clear hG;rintro w3 ⟨HW, HE, HC⟩;have hcp := run_copy_row (P := Tryd.prog) w3 31 31 3 3 G 0 c c ⟨x, 0, none⟩ 1 1 (repI c 0 s).toArray 3 (List.replicate 1 (.int .i64 s)) Tryd.underlying31 i64Sz HW.out (by simp [Nat.min_def]; omega) (by
  intro j v hj;have : j = 0 := by have := (List.getElem?_eq_some_iff.1 hj).1; simp at this; omega
  subst this;simp at hj;subst hj;rw [add_plain]; exact HC.out) (by rw [List.size_toArray, repI_len c 0 s (by omega)]; simp; omega) (by simp [Value.oneCell'])
 have hst := repI_step c 0 1 s (by omega);rw [Nat.zero_add] at hst;rw [List.length_replicate, Nat.zero_add] at hcp;rw [show (repI c 0 s).toArray.toList = repI c 0 s from rfl, hst] at hcp;have HS3 := Lib.hid (setRow_heap w3 G (repI c 0 s).toArray (repI c 1 s).toArray 3 (0, 0) HW.out);have HE3 := Lib.hid (below_setRow (B := G) (w0 := w2) (by rw [← HG.out]; exact HE.out) (Nat.le_refl G) (repI c 1 s).toArray);clear hst HW HE HC;go_wp2_with fail;clear hcp;refine wp_world (fun wz => Hid (wz.heap[G]? = some (.cells (repI c 1 s).toArray 3 (0, 0))) ∧ Hid (Below G w2 wz)) ⟨HS3, HE3⟩ ?_;clear HS3 HE3;rintro w4 ⟨HS, HE⟩;go_loopg [8] (c - 1) (fun k cc wr => ∃ q : Nat, 1 ≤ q ∧ q + k = c ∧ cc = .int .i64 (q : Int) ∧ Hid (wr.heap[G]? = some (.cells (repI c q s).toArray 3 (0, 0))) ∧ Hid (Below G w2 wr))
 case atStart => exact ⟨1, Nat.le_refl _, by omega, rfl, HS, HE⟩
 case round =>
  clear HS HE;obtain ⟨q, hq1, hqk, rfl, HS, HE⟩ := hrel;by_cases hlt : q < c
  ·obtain ⟨D, hD⟩ : ∃ D, c - q = D := ⟨_, rfl⟩;obtain ⟨k, hk⟩ : ∃ k, Nat.min q D = k := ⟨_, rfl⟩;have hk1 : 1 ≤ k ∧ q + k ≤ c ∧ k ≤ q ∧ k ≤ D := by have e : Nat.min q D = min q D := rfl; rw [e] at hk; omega
   have hcp := run_copy_row (P := Tryd.prog) wr.drew 31 31 3 3 G q D D ⟨G, 0, none⟩ q c (repI c q s).toArray 3 (List.replicate k (.int .i64 s)) Tryd.underlying31 i64Sz HS.out (by rw [List.length_replicate]; exact hk.symm) (by
    intro j v hj;have hj1 : j < k := by have := (List.getElem?_eq_some_iff.1 hj).1; simpa using this
    rw [List.getElem?_replicate, if_pos hj1] at hj;rw [add_plain];have h1 : wr.drew.cell? ⟨G, j, none⟩ = (repI c q s).toArray[j]? := by
     have h2 : wr.drew.heap[G]? = some (.cells (repI c q s).toArray 3 (0, 0)) := HS.out;rw [Lib.cell_of_heap h2]
    rw [h1, List.getElem?_toArray];unfold repI;rw [List.getElem?_append_left (by simp; omega), List.getElem?_replicate, if_pos (by omega)];exact hj) (by rw [List.size_toArray, repI_len c q s (by omega), List.length_replicate]; omega) (by intro v hv; rw [List.eq_of_mem_replicate hv]; rfl)
   rw [List.length_replicate, show (repI c q s).toArray.toList = repI c q s from rfl, repI_step c q k s hk1.2.1] at hcp;obtain ⟨Q2, hQ2⟩ : ∃ z, q + k = z := ⟨_, rfl⟩;rw [hQ2] at hcp;have HS2 := Lib.hid (setRow_heap wr G (repI c q s).toArray (repI c Q2 s).toArray 3 (0, 0) HS.out);have HE2 := Lib.hid (below_setRow (B := G) (w0 := w2) (Below.drew HE.out) (Nat.le_refl G) (repI c Q2 s).toArray);have hDI : (c : Int) - (q : Int) = (D : Int) := by omega
   have hql : q ≤ c := by omega
   have hqk2 : (q : Int) + (k : Int) = (Q2 : Int) := by omega
   have HK := Lib.hid (And.intro hk1 (And.intro hD hQ2));have wq_ : ∀ z, z = (Q2 : Int) → IntKind.i64.wrap z = z := by rintro _ rfl; rw [IntKind.wrap_i64]; omega
   clear hk HS HE hk1 hQ2;have mixed : Tryd.prog.follows .mixedOrders = true := by kernel_rfl
   go_wp2_with fail;go_region_o
   all_goals (go_wp2_with fail)
   all_goals (go_roundg (c - Q2))
   all_goals first
    | (have := HK.out; omega)
    | exact ⟨Q2, by have := HK.out; omega, by have := HK.out; omega, rfl, HS2, HE2⟩
  ·obtain rfl : q = c := by omega
   go_wp2_with fail;go_ret;refine ⟨⟨G, q, rfl, fun i hi => ?_, by rw [HG.out]; exact Nat.le_refl _, lt_of_block HS.out⟩, by have := HE.out; rw [← HG.out] at this; exact this⟩;have h2 := HS.out;refine ⟨?_, by simp [World.frozen?, h2]⟩;rw [Lib.cell_of_heap h2, List.getElem?_toArray];unfold repI;rw [List.getElem?_append_left (by simp; omega), List.getElem?_replicate, if_pos hi]
end Go.Proofs.YtnhbjgmfbcedaaaDoor
