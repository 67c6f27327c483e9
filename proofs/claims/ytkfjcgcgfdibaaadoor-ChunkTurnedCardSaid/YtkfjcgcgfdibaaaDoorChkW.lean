/- chunk.Write. -/
import Derived.Test.YtkfjcgcgfdibaaaDoorBld
import Derived.Test.YtkfjcgcgfdibaaaDoorCk
import Derived.Test.YtkfjcgcgfdibaaaDoorErrs
import Derived.Deep.AppendLies
import Derived.Deep.RegionHeld3
import Derived.RegionTactic
namespace Go.Proofs.YtkfjcgcgfdibaaaDoor
open Go.RowKit
set_option maxRecDepth 100000
structure ErrC (w : World) (E : Nat → Addr) : Prop where
  var : ∀ k, k < 4 → w.cell? ⟨gk k, 0, none⟩ = some (sentV (E k))
theorem ErrC.ext {w w' : World} {E : Nat → Addr} (h : ErrC w E) (hE : Ext w w') : ErrC w' E := ⟨fun k hk => (hE.cell (p := ⟨gk k, 0, none⟩) (World.block_lt_of_cell? w _ (h.var k hk))).trans (h.var k hk)⟩
theorem Errs.c {w : World} {E : Nat → Addr} (h : Errs w E) : ErrC w E := ⟨fun k hk => h.var k (by omega)⟩
theorem anyHw {P : Program} {md : Region.Mode} {ops : Array Oper} {Q : Exit → Act → World → Prop} {S : World → Prop} {fuel : Nat} {listed : Array Bool} {a : Act} {W : World} (F : World → Prop) (h1 : F W) (h2 : ∀ wz, F wz → wpAnyH P md ops Q S fuel listed a wz) : wpAnyH P md ops Q S fuel listed a W := h2 W h1
def FPost (w w' : World) (E : Nat → Addr) (r : FRes) (e : Ending) : Prop :=
  Ext w w' ∧ ((∃ out, r = .ok out ∧ e = .returned (.tuple #[.string ⟨out.toArray⟩, .nilIface])) ∨ (∃ c i F : Nat, c < 9 ∧ (i : Int) ≤ 9223372036854775807 ∧ r = .bad c i ∧ e = .returned (.tuple #[.string ⟨#[]⟩, .iface 111 (.pointer (some ⟨F, 0, none⟩))]) ∧ w'.heap[F]? = some (.cells #[.int .i64 (i : Int), sentV (E c)] 113 (0, 0))))
theorem file_err {w wz : World} {E : Nat → Addr} {k c : Nat} {r : FRes} (hX : Ext w wz) (hc : c < 9) (hk : (k : Int) ≤ 9223372036854775807) (h : r = .bad c k) :
    FPost w (wz.drew.alloc (.cells #[.int .i64 (k : Int), .iface 171 (.pointer (some (E c)))] 113)) E r (.returned (.tuple #[.string ⟨#[]⟩, .iface 111 (.pointer (some ⟨wz.heap.size, 0, none⟩))])) :=
  ⟨(show Ext w wz.drew from Below.drew hX).alloc _, .inr ⟨c, k, wz.heap.size, hc, hk, h, rfl, heap_alloc_new wz.drew _⟩⟩
theorem file_fin {w wz : World} {E : Nat → Addr} {r : FRes} {out : List UInt8} (hX : Ext w wz) (h : r = .ok out) : FPost w wz E r (.returned (.tuple #[.string ⟨out.toArray⟩, .nilIface])) := ⟨hX, .inl ⟨out, h, rfl⟩⟩
theorem fstep_kind {c : Ck} {k : Nat} {out : List UInt8} (h : kindB c.k.data.toList = false) : fstep c k out = .bad 2 k := by unfold fstep; rw [if_neg (by rw [h]; decide)]
theorem fstep_big {c : Ck} {k : Nat} {out : List UInt8} (h : kindB c.k.data.toList = true) (hb : 300000 < out.length + 12 + c.d.size) : fstep c k out = .bad 1 k := by unfold fstep; rw [if_pos h, if_pos hb]
theorem fstep_ok {c : Ck} {k : Nat} {out : List UInt8} (h : kindB c.k.data.toList = true) (hb : ¬ 300000 < out.length + 12 + c.d.size) : fstep c k out = .ok (out ++ enc c) := by unfold fstep; rw [if_pos h, if_neg hb]
theorem kind_size {s : ByteArray} (h : kindB s.data.toList = true) : s.size = 4 := by unfold kindB at h; simp at h; exact h.1
theorem app_list (a b : ByteArray) : (a ++ b).data.toList = a.data.toList ++ b.data.toList := by rw [ByteArray.data_append, Array.toList_append]
theorem Cb.others {b : Nat} {w w' : World} {K : Nat} {T : TypeId} {k d : ByteArray} (h : Cb w K T k d) (ho : Lib.OthersKept 5 (some b) w w') (hb : K ≠ b) (hT : T ≠ 5) : Cb w' K T k d := by
  refine ho K _ h (fun e => hb (by injection e)) (fun c fz e => hT (by injection e))
set_option linter.unusedSimpArgs false in
set_option maxHeartbeats 4000000 in
theorem write_any (x : Option Addr) (cap : Nat) (L : List Ck) (w : World) (E : Nat → Addr) (hE : ErrC w E) (hx : Cks w x L) (hn : L.length ≤ 100000) (hO : ∀ c ∈ L, c.Ok) :
    Calls Tryd.prog 48 #[.slice x L.length cap] w fun e w' => FPost w w' E (fileL L L.length) e := by
  have HE := Lib.hid hE
  have HX := Lib.hid hx
  have HO := Lib.hid hO
  clear hE hx hO
  obtain ⟨n, hn0⟩ : ∃ n, L.length = n := ⟨_, rfl⟩
  have HN := Lib.hid hn0
  rw [hn0] at hn ⊢
  clear hn0
  go_enter Tryd.func48, Tryd.ntmps48
  go_wp2_with fail
  refine calls_world (fun wz => Ext w wz ∧ Bld w.heap.size w.heap.size [] wz) ⟨(Ext.refl _).alloc _, Bld.fresh w⟩ ?_
  rintro w1 ⟨hX, hB⟩
  have HX1 := Lib.hid hX
  clear hX
  refine (bld_write w.heap.size w.heap.size [] ⟨sigB.toArray⟩ w1 hB (by decide) HX1.out.size).mono ?_
  rintro e w2 ⟨rfl, hB2, hX2, hO2⟩
  have HB2 := Lib.hid hB2
  have HX2 := Lib.hid (Below.trans HX1.out hX2)
  clear hB hB2 hX2 hO2 HX1
  go_wp2_with fail
  go_loopw [10] (fun c wr => ∃ (k : Nat) (out : List UInt8), k ≤ n ∧ c = .int .i64 k ∧ Hid (fileL L k = .ok out) ∧ Hid (Bld w.heap.size w.heap.size out wr) ∧ Hid (Ext w wr)) (fun c _ => n - (intOf c).toNat)
  case atStart => exact ⟨0, sigB, by omega, rfl, Lib.hid rfl, HB2, HX2⟩
  case round =>
    clear HB2 HX2
    obtain ⟨k, out, hk, rfl, HL, HB, HW⟩ := hrel
    have hlen := fileL_len HL.out
    by_cases hlt : k < n
    · obtain ⟨a, rfl⟩ := HX.out.isSome (i := k) (by rw [HN.out]; exact hlt)
      obtain ⟨c, hc⟩ : ∃ c, L[k]? = some c := ⟨_, List.getElem?_eq_getElem (by rw [HN.out]; exact hlt)⟩
      obtain ⟨c0, c1⟩ := (HX.out.ext HW.out).2 a rfl k c hc
      obtain ⟨okk, okd⟩ := HO.out c (List.mem_of_getElem? hc)
      have HSt := Lib.hid (fileL_succ HL.out hc)
      have HBad := Lib.hid (fun q (h : fstep c k out = .bad q k) => fileL_bad (n := n) HL.out hc h hlt)
      clear hc
      obtain ⟨ck, cd⟩ := c
      simp only at c0 c1 okk okd
      obtain ⟨ol, hol⟩ : ∃ ol, out.length = ol := ⟨_, rfl⟩
      have HOL := Lib.hid hol
      rw [hol] at hlen
      clear hol
      by_cases qk : kindB ck.data.toList = true
      · have hck := kind_size qk
        have HK := Lib.hid qk
        go_wp2_with fail
        refine calls_world (fun wz => Ext wr wz ∧ Cb wz wr.heap.size 110 ck cd) ⟨(Ext.refl _).alloc _, heap_alloc_new wr _⟩ ?_
        rintro w3 ⟨hX, hC⟩
        have X_3 := Lib.hid (HW.out.trans hX)
        have B_3 := Lib.hid (HB.out.ext hX)
        have HKB := Lib.hid (Nat.ne_of_gt HB.out.lt)
        obtain ⟨K, hK0⟩ : ∃ K, wr.heap.size = K := ⟨_, rfl⟩
        rw [hK0] at hC HKB ⊢
        have C_3 := Lib.hid hC
        clear hX hC hK0 HW HB c0 c1 wr
        refine (isKind_any ck w3 okk).mono ?_
        rintro e w9 ⟨rfl, rfl⟩
        rw [HK.out]
        clear qk
        go_wp2_with fail
        have hbl := fun wz (h : Bld w.heap.size w.heap.size out wz) => bld_len w.heap.size w.heap.size out wz h
        rw [HOL.out] at hbl
        have HBL := Lib.hid hbl
        clear hbl
        have hw1 : IntKind.i64.wrap ((ol : Int) + 12) = (ol : Int) + 12 := by unfold IntKind.wrap; simp [IntKind.bits, IntKind.signed]; omega
        have hw2 : IntKind.i64.wrap ((ol : Int) + 12 + (cd.size : Int)) = (ol : Int) + 12 + (cd.size : Int) := by unfold IntKind.wrap; simp [IntKind.bits, IntKind.signed]; omega
        refine wp_region_held_drew (S := fun w' => w'.cell? ⟨K, 0, none⟩ = some (.string ck) ∧ w'.cell? ⟨K, 1, none⟩ = some (.string cd)) (by kernel_rfl) ⟨C_3.out.cell 0, C_3.out.cell 1⟩ (fun hHeld => ?_)
        clear hHeld
        refine anyHw (fun wz => Ext w3 wz) (show Ext w3 w3.drew from Below.drew (Ext.refl w3)) ?_
        rintro w4 h
        have X_4 := Lib.hid (X_3.out.trans h)
        have B_4 := Lib.hid (B_3.out.ext h)
        have C_4 := Lib.hid (C_3.out.ext h)
        clear h X_3 B_3 C_3
        have hHeld : w4.cell? ⟨K, 0, none⟩ = some (.string ck) ∧ w4.cell? ⟨K, 1, none⟩ = some (.string cd) := ⟨C_4.out.cell 0, C_4.out.cell 1⟩
        refine wpAnyH_take (i := 2) (v := ?_) rfl (by kernel_rfl) (by kernel_rfl) (by kernel_rfl) (fun _ _ _ h => h) (Or.inl ⟨by kernel_rfl, ?_⟩) hHeld ?_
        rotate_left
        · intro w hSw
          (try dsimp only at hSw)
          go_split_ands
          go_simp
          (try with_reducible rfl)
        try simp only [Act.put, List.getElem_toArray, List.getElem_cons_succ, List.getElem_cons_zero, List.setIfInBounds_toArray, List.set_cons_zero, List.set_cons_succ]
        refine wpAnyH_take (i := 3) (v := ?_) rfl (by kernel_rfl) (by kernel_rfl) (by kernel_rfl) (fun _ _ _ h => h) (Or.inl ⟨by kernel_rfl, ?_⟩) hHeld ?_
        rotate_left
        · intro w hSw
          (try dsimp only at hSw)
          go_split_ands
          go_simp
          (try with_reducible rfl)
        try simp only [Act.put, List.getElem_toArray, List.getElem_cons_succ, List.getElem_cons_zero, List.setIfInBounds_toArray, List.set_cons_zero, List.set_cons_succ]
        refine wpAnyH_take (i := 4) (v := ?_) rfl (by kernel_rfl) (by kernel_rfl) (by kernel_rfl) (fun _ _ _ h => h) (Or.inl ⟨by kernel_rfl, ?_⟩) hHeld ?_
        rotate_left
        · intro w hSw
          (try dsimp only at hSw)
          go_split_ands
          go_simp
          (try with_reducible rfl)
        try simp only [Act.put, List.getElem_toArray, List.getElem_cons_succ, List.getElem_cons_zero, List.setIfInBounds_toArray, List.set_cons_zero, List.set_cons_succ]
        refine wpAnyH_ready (rs := [0]) (by kernel_rfl) (by simp) ?_
        refine AllReadyH.cons rfl (fun KK hK => ?_) AllReadyH.nil
        clear hHeld
        go_simp
        refine (HBL.out _ B_4.out).mono ?_
        rintro e w9 ⟨rfl, rfl⟩
        go_simp
        refine hK.out _ _ ⟨C_4.out.cell 0, C_4.out.cell 1⟩ (fun hHeld => ?_)
        clear hK KK
        try simp only [Act.put, List.getElem_toArray, List.getElem_cons_succ, List.getElem_cons_zero, List.setIfInBounds_toArray, List.set_cons_zero, List.set_cons_succ]
        refine wpAnyH_take (i := 1) (v := ?_) rfl (by kernel_rfl) (by kernel_rfl) (by kernel_rfl) (fun _ _ _ h => h) (Or.inl ⟨by kernel_rfl, ?_⟩) hHeld ?_
        rotate_left
        · intro w hSw
          (try dsimp only at hSw)
          go_split_ands
          go_simp
          (try with_reducible rfl)
        try simp only [Act.put, List.getElem_toArray, List.getElem_cons_succ, List.getElem_cons_zero, List.setIfInBounds_toArray, List.set_cons_zero, List.set_cons_succ]
        refine wpAnyH_take (i := 5) (v := ?_) rfl (by kernel_rfl) (by kernel_rfl) (by kernel_rfl) (fun _ _ _ h => h) (Or.inl ⟨by kernel_rfl, ?_⟩) hHeld ?_
        rotate_left
        · intro w hSw
          (try dsimp only at hSw)
          go_split_ands
          go_simp
          (try with_reducible rfl)
        try simp only [Act.put, List.getElem_toArray, List.getElem_cons_succ, List.getElem_cons_zero, List.setIfInBounds_toArray, List.set_cons_zero, List.set_cons_succ]
        refine wpAnyH_take (i := 6) (v := ?_) rfl (by kernel_rfl) (by kernel_rfl) (by kernel_rfl) (fun _ _ _ h => h) (Or.inl ⟨by kernel_rfl, ?_⟩) hHeld ?_
        rotate_left
        · intro w hSw
          (try dsimp only at hSw)
          go_split_ands
          go_simp
          (try with_reducible rfl)
        try simp only [Act.put, List.getElem_toArray, List.getElem_cons_succ, List.getElem_cons_zero, List.setIfInBounds_toArray, List.set_cons_zero, List.set_cons_succ]
        refine wpAnyH_done (by kernel_rfl) ?_ _
        clear hHeld
        clear hw1 hw2
        by_cases qb : 300000 < ol + 12 + cd.size
        · have tq : decide ((300000 : Int) < (ol : Int) + 12 + (cd.size : Int)) = true := decide_eq_true (by omega)
          have HBB := Lib.hid (HBad.out 1 (fstep_big HK.out (by rw [HOL.out]; exact qb)))
          clear HSt HBad HL HOL
          have hv := (HE.out.ext X_4.out).var 1 (by decide)
          simp only [gk, sentV] at hv
          go_wp2_with fail
          go_region
          all_goals
            (try go_wp2_with fail)
            go_ret2
            exact file_err X_4.out (by decide) (by omega) HBB.out
        · have tq : decide ((300000 : Int) < (ol : Int) + 12 + (cd.size : Int)) = false := decide_eq_false (by omega)
          have HS2 := Lib.hid (HSt.out.trans (fstep_ok HK.out (by rw [HOL.out]; exact qb)))
          clear HSt HBad HL
          obtain ⟨N1, hN1⟩ : ∃ N : ByteArray, N = ⟨(big4 cd.size).toArray⟩ := ⟨_, rfl⟩
          have hN1s : N1.size = 4 := by rw [hN1]; rfl
          obtain ⟨z, hz⟩ : ∃ z, Crc.crc (ck.data.toList ++ cd.data.toList) = z := ⟨_, rfl⟩
          have hzl : z < 4294967296 := by rw [← hz]; exact Crc.flip_lt (Crc.run_lt (by decide) _)
          obtain ⟨N2, hN2⟩ : ∃ N : ByteArray, N = ⟨(big4 z).toArray⟩ := ⟨_, rfl⟩
          have hN2s : N2.size = 4 := by rw [hN2]; rfl
          have hn1 := fun w => number_any cd.size (by omega) w
          rw [← hN1] at hn1
          have HN1 := Lib.hid hn1
          have hcr := fun w => crc_any (ck ++ cd) w (by unfold maxLen; rw [ByteArray.size_append]; omega)
          rw [app_list, hz] at hcr
          have HCR := Lib.hid hcr
          have hn2 := fun w => number_any z hzl w
          rw [← hN2] at hn2
          have HN2 := Lib.hid hn2
          have henc : (N1 ++ ck ++ cd ++ N2).data.toList = enc ⟨ck, cd⟩ := by rw [app_list, app_list, app_list, hN1, hN2, ← hz]; rfl
          have HENC := Lib.hid henc
          clear henc hn1 hcr hn2 hz hN1 hN2
          have hw32 : IntKind.u32.wrap (cd.size : Int) = (cd.size : Int) := by unfold IntKind.wrap; simp [IntKind.bits, IntKind.signed]; omega
          have s5 : ¬ 9223372036854775807 < N1.size + ck.size + cd.size := by (try simp only [ByteArray.size_append]); omega
          have s6 : ¬ 9223372036854775807 < N1.size + ck.size + cd.size + N2.size := by (try simp only [ByteArray.size_append]); omega
          have s1 : ¬ 9223372036854775807 < N1.size + ck.size := by (try simp only [ByteArray.size_append]); omega
          have s2 : ¬ 9223372036854775807 < (N1 ++ ck).size + cd.size := by (try simp only [ByteArray.size_append]); omega
          have s3 : ¬ 9223372036854775807 < ck.size + cd.size := by (try simp only [ByteArray.size_append]); omega
          have s4 : ¬ 9223372036854775807 < (N1 ++ ck ++ cd).size + N2.size := by (try simp only [ByteArray.size_append]); omega
          have hsum : N1.size + ck.size + cd.size + N2.size ≤ 6000 := by omega
          have HSUM := Lib.hid hsum
          clear hck hN1s hN2s hsum
          go_wp2_with fail
          refine wp_region_held_drew (S := fun w' => w'.cell? ⟨K, 0, none⟩ = some (.string ck) ∧ w'.cell? ⟨K, 1, none⟩ = some (.string cd)) (by kernel_rfl) ⟨C_4.out.cell 0, C_4.out.cell 1⟩ (fun hHeld => ?_)
          clear hHeld
          refine anyHw (fun wz => Ext w4 wz) (show Ext w4 w4.drew from Below.drew (Ext.refl w4)) ?_
          rintro w5 h
          have X_5 := Lib.hid (X_4.out.trans h)
          have B_5 := Lib.hid (B_4.out.ext h)
          have C_5 := Lib.hid (C_4.out.ext h)
          clear h X_4 B_4 C_4
          have hHeld : w5.cell? ⟨K, 0, none⟩ = some (.string ck) ∧ w5.cell? ⟨K, 1, none⟩ = some (.string cd) := ⟨C_5.out.cell 0, C_5.out.cell 1⟩
          refine wpAnyH_take (i := 0) (v := ?_) rfl (by kernel_rfl) (by kernel_rfl) (by kernel_rfl) (fun _ _ _ h => h) (Or.inl ⟨by kernel_rfl, ?_⟩) hHeld ?_
          rotate_left
          · intro w hSw
            (try dsimp only at hSw)
            go_split_ands
            go_simp
            (try with_reducible rfl)
          try simp only [Act.put, List.getElem_toArray, List.getElem_cons_succ, List.getElem_cons_zero, List.setIfInBounds_toArray, List.set_cons_zero, List.set_cons_succ]
          refine wpAnyH_take (i := 1) (v := ?_) rfl (by kernel_rfl) (by kernel_rfl) (by kernel_rfl) (fun _ _ _ h => h) (Or.inl ⟨by kernel_rfl, ?_⟩) hHeld ?_
          rotate_left
          · intro w hSw
            (try dsimp only at hSw)
            go_split_ands
            go_simp
            (try with_reducible rfl)
          try simp only [Act.put, List.getElem_toArray, List.getElem_cons_succ, List.getElem_cons_zero, List.setIfInBounds_toArray, List.set_cons_zero, List.set_cons_succ]
          refine wpAnyH_take (i := 2) (v := ?_) rfl (by kernel_rfl) (by kernel_rfl) (by kernel_rfl) (fun _ _ _ h => h) (Or.inl ⟨by kernel_rfl, ?_⟩) hHeld ?_
          rotate_left
          · intro w hSw
            (try dsimp only at hSw)
            go_split_ands
            go_simp
            (try with_reducible rfl)
          try simp only [Act.put, List.getElem_toArray, List.getElem_cons_succ, List.getElem_cons_zero, List.setIfInBounds_toArray, List.set_cons_zero, List.set_cons_succ]
          refine wpAnyH_take (i := 3) (v := ?_) rfl (by kernel_rfl) (by kernel_rfl) (by kernel_rfl) (fun _ _ _ h => h) (Or.inl ⟨by kernel_rfl, ?_⟩) hHeld ?_
          rotate_left
          · intro w hSw
            (try dsimp only at hSw)
            go_split_ands
            go_simp
            (try with_reducible rfl)
          try simp only [Act.put, List.getElem_toArray, List.getElem_cons_succ, List.getElem_cons_zero, List.setIfInBounds_toArray, List.set_cons_zero, List.set_cons_succ]
          refine wpAnyH_take (i := 5) (v := ?_) rfl (by kernel_rfl) (by kernel_rfl) (by kernel_rfl) (fun _ _ _ h => h) (Or.inl ⟨by kernel_rfl, ?_⟩) hHeld ?_
          rotate_left
          · intro w hSw
            (try dsimp only at hSw)
            go_split_ands
            go_simp
            (try with_reducible rfl)
          try simp only [Act.put, List.getElem_toArray, List.getElem_cons_succ, List.getElem_cons_zero, List.setIfInBounds_toArray, List.set_cons_zero, List.set_cons_succ]
          refine wpAnyH_take (i := 6) (v := ?_) rfl (by kernel_rfl) (by kernel_rfl) (by kernel_rfl) (fun _ _ _ h => h) (Or.inl ⟨by kernel_rfl, ?_⟩) hHeld ?_
          rotate_left
          · intro w hSw
            (try dsimp only at hSw)
            go_split_ands
            go_simp
            (try with_reducible rfl)
          try simp only [Act.put, List.getElem_toArray, List.getElem_cons_succ, List.getElem_cons_zero, List.setIfInBounds_toArray, List.set_cons_zero, List.set_cons_succ]
          refine wpAnyH_take (i := 8) (v := ?_) rfl (by kernel_rfl) (by kernel_rfl) (by kernel_rfl) (fun _ _ _ h => h) (Or.inl ⟨by kernel_rfl, ?_⟩) hHeld ?_
          rotate_left
          · intro w hSw
            (try dsimp only at hSw)
            go_split_ands
            go_simp
            (try with_reducible rfl)
          try simp only [Act.put, List.getElem_toArray, List.getElem_cons_succ, List.getElem_cons_zero, List.setIfInBounds_toArray, List.set_cons_zero, List.set_cons_succ]
          refine wpAnyH_take (i := 9) (v := ?_) rfl (by kernel_rfl) (by kernel_rfl) (by kernel_rfl) (fun _ _ _ h => h) (Or.inl ⟨by kernel_rfl, ?_⟩) hHeld ?_
          rotate_left
          · intro w hSw
            (try dsimp only at hSw)
            go_split_ands
            go_simp
            (try with_reducible rfl)
          try simp only [Act.put, List.getElem_toArray, List.getElem_cons_succ, List.getElem_cons_zero, List.setIfInBounds_toArray, List.set_cons_zero, List.set_cons_succ]
          refine wpAnyH_take (i := 11) (v := ?_) rfl (by kernel_rfl) (by kernel_rfl) (by kernel_rfl) (fun _ _ _ h => h) (Or.inl ⟨by kernel_rfl, ?_⟩) hHeld ?_
          rotate_left
          · intro w hSw
            (try dsimp only at hSw)
            go_split_ands
            go_simp
            (try with_reducible rfl)
          try simp only [Act.put, List.getElem_toArray, List.getElem_cons_succ, List.getElem_cons_zero, List.setIfInBounds_toArray, List.set_cons_zero, List.set_cons_succ]
          refine wpAnyH_take (i := 12) (v := ?_) rfl (by kernel_rfl) (by kernel_rfl) (by kernel_rfl) (fun _ _ _ h => h) (Or.inl ⟨by kernel_rfl, ?_⟩) hHeld ?_
          rotate_left
          · intro w hSw
            (try dsimp only at hSw)
            go_split_ands
            go_simp
            (try with_reducible rfl)
          try simp only [Act.put, List.getElem_toArray, List.getElem_cons_succ, List.getElem_cons_zero, List.setIfInBounds_toArray, List.set_cons_zero, List.set_cons_succ]
          refine wpAnyH_take (i := 13) (v := ?_) rfl (by kernel_rfl) (by kernel_rfl) (by kernel_rfl) (fun _ _ _ h => h) (Or.inl ⟨by kernel_rfl, ?_⟩) hHeld ?_
          rotate_left
          · intro w hSw
            (try dsimp only at hSw)
            go_split_ands
            go_simp
            (try with_reducible rfl)
          try simp only [Act.put, List.getElem_toArray, List.getElem_cons_succ, List.getElem_cons_zero, List.setIfInBounds_toArray, List.set_cons_zero, List.set_cons_succ]
          refine wpAnyH_take (i := 14) (v := ?_) rfl (by kernel_rfl) (by kernel_rfl) (by kernel_rfl) (fun _ _ _ h => h) (Or.inl ⟨by kernel_rfl, ?_⟩) hHeld ?_
          rotate_left
          · intro w hSw
            (try dsimp only at hSw)
            go_split_ands
            go_simp
            (try with_reducible rfl)
          try simp only [Act.put, List.getElem_toArray, List.getElem_cons_succ, List.getElem_cons_zero, List.setIfInBounds_toArray, List.set_cons_zero, List.set_cons_succ]
          refine wpAnyH_take (i := 15) (v := ?_) rfl (by kernel_rfl) (by kernel_rfl) (by kernel_rfl) (fun _ _ _ h => h) (Or.inl ⟨by kernel_rfl, ?_⟩) hHeld ?_
          rotate_left
          · intro w hSw
            (try dsimp only at hSw)
            go_split_ands
            go_simp
            (try with_reducible rfl)
          try simp only [Act.put, List.getElem_toArray, List.getElem_cons_succ, List.getElem_cons_zero, List.setIfInBounds_toArray, List.set_cons_zero, List.set_cons_succ]
          refine wpAnyH_ready (rs := [4]) (by kernel_rfl) (by simp) ?_
          refine AllReadyH.cons rfl (fun KK hK => ?_) AllReadyH.nil
          clear hHeld
          go_simp
          refine (HN1.out _).mono ?_
          rintro e w6 ⟨rfl, h⟩
          have X_6 := Lib.hid (X_5.out.trans h)
          have B_6 := Lib.hid (B_5.out.ext h)
          have C_6 := Lib.hid (C_5.out.ext h)
          clear h X_5 B_5 C_5
          go_simp
          refine hK.out _ _ ⟨C_6.out.cell 0, C_6.out.cell 1⟩ (fun hHeld => ?_)
          clear hK KK
          try simp only [Act.put, List.getElem_toArray, List.getElem_cons_succ, List.getElem_cons_zero, List.setIfInBounds_toArray, List.set_cons_zero, List.set_cons_succ]
          refine wpAnyH_take (i := 7) (v := ?_) rfl (by kernel_rfl) (by kernel_rfl) (by kernel_rfl) (fun _ _ _ h => h) (Or.inl ⟨by kernel_rfl, ?_⟩) hHeld ?_
          rotate_left
          · intro w hSw
            (try dsimp only at hSw)
            go_split_ands
            go_simp
            (try with_reducible rfl)
          try simp only [Act.put, List.getElem_toArray, List.getElem_cons_succ, List.getElem_cons_zero, List.setIfInBounds_toArray, List.set_cons_zero, List.set_cons_succ]
          refine wpAnyH_take (i := 10) (v := ?_) rfl (by kernel_rfl) (by kernel_rfl) (by kernel_rfl) (fun _ _ _ h => h) (Or.inl ⟨by kernel_rfl, ?_⟩) hHeld ?_
          rotate_left
          · intro w hSw
            (try dsimp only at hSw)
            go_split_ands
            go_simp
            (try with_reducible rfl)
          try simp only [Act.put, List.getElem_toArray, List.getElem_cons_succ, List.getElem_cons_zero, List.setIfInBounds_toArray, List.set_cons_zero, List.set_cons_succ]
          refine wpAnyH_ready (rs := [16]) (by kernel_rfl) (by simp) ?_
          refine AllReadyH.cons rfl (fun KK hK => ?_) AllReadyH.nil
          clear hHeld
          go_simp
          refine (HCR.out _).mono ?_
          rintro e w7 ⟨rfl, h⟩
          have X_7 := Lib.hid (X_6.out.trans h)
          have B_7 := Lib.hid (B_6.out.ext h)
          have C_7 := Lib.hid (C_6.out.ext h)
          clear h X_6 B_6 C_6
          go_simp
          refine hK.out _ _ ⟨C_7.out.cell 0, C_7.out.cell 1⟩ (fun hHeld => ?_)
          clear hK KK
          try simp only [Act.put, List.getElem_toArray, List.getElem_cons_succ, List.getElem_cons_zero, List.setIfInBounds_toArray, List.set_cons_zero, List.set_cons_succ]
          refine wpAnyH_ready (rs := [17]) (by kernel_rfl) (by simp) ?_
          refine AllReadyH.cons rfl (fun KK hK => ?_) AllReadyH.nil
          clear hHeld
          go_simp
          refine (HN2.out _).mono ?_
          rintro e w8 ⟨rfl, h⟩
          have X_8 := Lib.hid (X_7.out.trans h)
          have B_8 := Lib.hid (B_7.out.ext h)
          have C_8 := Lib.hid (C_7.out.ext h)
          clear h X_7 B_7 C_7
          go_simp
          refine hK.out _ _ ⟨C_8.out.cell 0, C_8.out.cell 1⟩ (fun hHeld => ?_)
          clear hK KK
          try simp only [Act.put, List.getElem_toArray, List.getElem_cons_succ, List.getElem_cons_zero, List.setIfInBounds_toArray, List.set_cons_zero, List.set_cons_succ]
          refine wpAnyH_take (i := 18) (v := ?_) rfl (by kernel_rfl) (by kernel_rfl) (by kernel_rfl) (fun _ _ _ h => h) (Or.inl ⟨by kernel_rfl, ?_⟩) hHeld ?_
          rotate_left
          · intro w hSw
            (try dsimp only at hSw)
            go_split_ands
            go_simp
            (try with_reducible rfl)
          try simp only [Act.put, List.getElem_toArray, List.getElem_cons_succ, List.getElem_cons_zero, List.setIfInBounds_toArray, List.set_cons_zero, List.set_cons_succ]
          refine wpAnyH_ready (rs := [19]) (by kernel_rfl) (by simp) ?_
          refine AllReadyH.cons rfl (fun KK hK => ?_) AllReadyH.nil
          clear hHeld
          go_simp
          refine (bld_write w.heap.size w.heap.size out (N1 ++ ck ++ cd ++ N2) _ B_8.out (by have := HSUM.out; simp only [ByteArray.size_append, HOL.out]; omega) X_8.out.size).mono ?_
          rintro e w9 ⟨rfl, hB, hX, hOt⟩
          rw [HENC.out] at hB
          have HC2 := Lib.hid (C_8.out.others hOt HKB.out (by decide))
          have HB3 := Lib.hid hB
          have HX3 := Lib.hid (Below.trans X_8.out hX)
          clear hB hX hOt
          go_simp
          refine hK.out _ _ ⟨HC2.out.cell 0, HC2.out.cell 1⟩ (fun hHeld => ?_)
          clear hK KK
          try simp only [Act.put, List.getElem_toArray, List.getElem_cons_succ, List.getElem_cons_zero, List.setIfInBounds_toArray, List.set_cons_zero, List.set_cons_succ]
          refine wpAnyH_done (by kernel_rfl) ?_ _
          clear hHeld
          go_wp2_with fail
          go_roundw
          case rel => exact ⟨k + 1, out ++ enc ⟨ck, cd⟩, by omega, by go_num, HS2, HB3, HX3⟩
          case measure => simp [intOf]; omega
      · have qk' : kindB ck.data.toList = false := by simpa using qk
        have HBB := Lib.hid (HBad.out 2 (fstep_kind qk'))
        clear HSt HBad HL qk
        go_wp2_with fail
        refine calls_world (fun wz => Ext wr wz ∧ Cb wz wr.heap.size 110 ck cd) ⟨(Ext.refl _).alloc _, heap_alloc_new wr _⟩ ?_
        rintro w3 ⟨hX, hC⟩
        have X_3 := Lib.hid (HW.out.trans hX)
        have B_3 := Lib.hid (HB.out.ext hX)
        have HKB := Lib.hid (Nat.ne_of_gt HB.out.lt)
        obtain ⟨K, hK0⟩ : ∃ K, wr.heap.size = K := ⟨_, rfl⟩
        rw [hK0] at hC HKB ⊢
        have C_3 := Lib.hid hC
        clear hX hC hK0 HW HB c0 c1 wr
        refine (isKind_any ck w3 okk).mono ?_
        rintro e w9 ⟨rfl, rfl⟩
        rw [qk']
        clear qk'
        have hv := (HE.out.ext X_3.out).var 2 (by decide)
        simp only [gk, sentV] at hv
        go_wp2_with fail
        go_region
        all_goals
          (try go_wp2_with fail)
          go_ret2
          exact file_err X_3.out (by decide) (by omega) HBB.out
    · obtain rfl : k = n := by omega
      go_wp2_with fail
      refine (bld_string _ _ _ _ HB.out (fileL_cons HL.out)).mono ?_
      rintro e w3 ⟨rfl, hX⟩
      have HX3 := Lib.hid (Below.trans HW.out hX)
      clear hX
      go_wp2_with fail
      go_ret2
      exact file_fin HX3.out HL.out
end Go.Proofs.YtkfjcgcgfdibaaaDoor
