/-
  The document's FewestOf.
-/
import Derived.Test.YtdeiolagnheihaaDoorMatchLongG1
import Derived.StillTailTactics
namespace Go.Proofs.YtdeiolagnheihaaDoor
open Go.RowKit
set_option maxRecDepth 100000
structure BR (w0 w : World) (bb n : Nat) (Bf : Nat → Nat) : Prop where
  ext : Ext w0 w
  cv : Cv w bb (n + 1) (fun i => .int .i64 (Bf i : Int))
  b0 : w0.heap.size ≤ bb
theorem BR.step {w0 w w' : World} {bb n : Nat} {Bf : Nat → Nat} (h : BR w0 w bb n Bf) (hE : Ext w w') : BR w0 w' bb n Bf := ⟨h.ext.trans hE, h.cv.ext hE, h.b0⟩
theorem BR.drew {w0 w : World} {bb n : Nat} {Bf : Nat → Nat} (h : BR w0 w bb n Bf) : BR w0 w.drew bb n Bf := h.step (Below.drew (Ext.refl _))
theorem BR.drewN {w0 w : World} {bb n : Nat} {Bf : Nat → Nat} (h : BR w0 w bb n Bf) (m : Nat) : BR w0 (w.drewN m) bb n Bf := h.step ((Ext.refl _).drewN m)
theorem BR.set {w0 w : World} {bb n : Nat} {Bf : Nat → Nat} (h : BR w0 w bb n Bf) (i x : Nat) (hi : i < n + 1) : BR w0 (w.setCell ⟨bb, i, none⟩ (.int .i64 (x : Int))) bb n (Mt.upd Bf i x) := by
  refine ⟨Below.setCell h.ext (by exact h.b0) _, h.cv.put i _ _ hi (fun j hj => ?_), h.b0⟩
  unfold Mt.upd
  split <;> rfl
theorem BR.congr {w0 w : World} {bb n : Nat} {Bf Bg : Nat → Nat} (h : BR w0 w bb n Bf) (hb : ∀ i, i < n + 1 → Bg i = Bf i) : BR w0 w bb n Bg :=
  ⟨h.ext, h.cv.congr (fun i hi => by rw [hb i hi]), h.b0⟩
theorem upd_same (Bf : Nat → Nat) (q i : Nat) : Mt.upd Bf q (Bf q) i = Bf i := by
  unfold Mt.upd; split
  · rename_i e; rw [e]
  · rfl
set_option linter.unusedSimpArgs false in
set_option maxHeartbeats 4000000 in
theorem fewestOf_any (s : ByteArray) (W : Nat) (w : World) (hs : s.size ≤ 3000) (h2 : W ≤ 32768) :
    Calls Tryd.prog 31 #[.string s, .int .i64 (W : Int)] w fun e w' => ∃ N : Nat, e = .returned (.int .i64 (N : Int)) ∧ Mt.Least (byt s) s.size W 0 s.size N ∧ N ≤ s.size ∧ Ext w w' := by
  have hmk := run_make_row' (P := Tryd.prog) 59 3 (.int .i64 0) 8 Tryd.underlying59 mi64info rfl .i64 .i64 (s.size + 1) (by omega) (by omega)
  obtain ⟨N1, hN1⟩ : ∃ N, s.size + 1 = N := ⟨_, rfl⟩
  have hNI : (s.size : Int) + 1 = (N1 : Int) := by omega
  rw [hN1] at hmk
  go_enter Tryd.func31, Tryd.ntmps31
  go_wp2_with fail
  have hC := Cv.made w N1 (.int .i64 0) 3
  refine wp_world (fun wz => Hid (BR w wz w.heap.size s.size (fun _ => 0))) (Lib.hid ⟨(Ext.refl _).alloc _, (by rw [hN1]; exact hC.congr (fun i _ => rfl)), Nat.le_refl _⟩) ?_
  obtain ⟨bb, hbb⟩ : ∃ z, w.heap.size = z := ⟨_, rfl⟩
  rw [hbb]
  clear hbb hC hmk
  rintro w2 HF
  go_loopw [6] (fun k wr => ∃ (q : Nat) (Bf : Nat → Nat), k = .int .i64 ((q : Int) - 1) ∧ q ≤ s.size ∧ Hid (BR w wr bb s.size Bf) ∧ Hid (Mt.Back (byt s) s.size W q Bf)) (fun k _ => (intOf k + 1).toNat)
  case atStart => exact ⟨s.size, fun _ => 0, rfl, Nat.le_refl _, HF, Lib.hid (Mt.Back.start _ _ _ _ rfl)⟩
  case round =>
    clear HF
    obtain ⟨q, Bf, rfl, hq, HF, HR⟩ := hrel
    rcases Nat.eq_zero_or_pos q with hq0 | hq0
    · subst hq0
      have HLe := Lib.hid (HR.out.least 0 (Nat.le_refl _) (Nat.zero_le _))
      have hb := HR.out.le 0 (Nat.le_refl _) (Nat.zero_le _)
      obtain ⟨X0, hX0⟩ : ∃ z, Bf 0 = z := ⟨_, rfl⟩
      obtain ⟨c0, f0⟩ := HF.out.cv 0 (by omega)
      simp only [hX0] at c0
      rw [hX0] at HLe hb
      have e0 : 0 < N1 := by omega
      clear hX0 HR
      go_wp2_with fail
      go_ret
      exact ⟨X0, rfl, HLe.out, by omega, HF.out.ext⟩
    · obtain ⟨a, rfl⟩ : ∃ a, q = a + 1 := ⟨q - 1, by omega⟩
      have hqa : ((a + 1 : Nat) : Int) - 1 = (a : Int) := by omega
      rw [hqa]
      have hlt : a < s.size := by omega
      clear hq hq0
      have b1 := HR.out.le (a + 1) (Nat.le_refl _) (by omega)
      have HR1 := Lib.hid (HR.out.lit hlt)
      obtain ⟨X1, hX1⟩ : ∃ z, Bf (a + 1) = z := ⟨_, rfl⟩
      obtain ⟨A1, hA1⟩ : ∃ z, a + 1 = z := ⟨_, rfl⟩
      obtain ⟨c0, f0⟩ := HF.out.cv a (by omega)
      obtain ⟨c1, f1⟩ := HF.out.cv (a + 1) (by omega)
      have HS := Lib.hid (HF.out.set a (Bf (a + 1) + 1) (by omega))
      simp only [hX1] at c1
      rw [hX1] at HS HR1 b1
      rw [hA1] at c1 f1
      have HA1 := Lib.hid hA1
      have d1 : (a : Int) + 1 = (A1 : Int) := by omega
      have e1 : A1 < N1 := by omega
      have e0 : a < N1 := by omega
      have hX1c : ((X1 + 1 : Nat) : Int) = (X1 : Int) + 1 := by omega
      rw [hX1c] at HS
      clear hX1 hA1 HR HF
      go_wp2_with fail
      clear c0 c1 f0 f1 d1 e1 e0 hX1c hqa
      go_loopw [7] (fun k wr => ∃ (f : Nat) (Bf : Nat → Nat), k = .int .i64 (f : Int) ∧ f ≤ a ∧ Hid (BR w wr bb s.size Bf) ∧ Hid (Mt.BackIn (byt s) s.size W a f 3 Bf)) (fun k _ => a - (intOf k).toNat)
      case atStart => exact ⟨0, _, rfl, by omega, HS, HR1⟩
      case round =>
        clear HS HR1
        obtain ⟨f, Bf, rfl, hfa, HF, HR⟩ := hrel
        by_cases hfl : f < a
        · by_cases hw : a - f ≤ W
          · have t2 : ¬ (W : Int) < (a : Int) - (f : Int) := by omega
            go_wp2_with fail
            clear t2
            obtain ⟨L, hL⟩ : ∃ L, Mt.mlen (byt s) s.size f a = L := ⟨_, rfl⟩
            have HLL := Lib.hid hL
            clear hL
            go_loopw [8] (fun z wr => ∃ zz : Nat, z = .int .i64 (zz : Int) ∧ zz ≤ 258 ∧ a + zz ≤ s.size ∧ Hid (Mt.mlf (byt s) s.size f a zz = L) ∧ Hid (BR w wr bb s.size Bf)) (fun z _ => 258 - (intOf z).toNat)
            case atStart => exact ⟨0, rfl, by omega, by omega, HLL, HF⟩
            case round =>
              clear HF
              obtain ⟨zz, rfl, hz, hza, HM, HF⟩ := hrel
              by_cases q1 : zz < 258
              · have t1 : decide ((zz : Int) < 258) = true := decide_eq_true (by omega)
                obtain ⟨A3, hA3⟩ : ∃ A, a + zz = A := ⟨_, rfl⟩
                have d3 : (a : Int) + (zz : Int) = (A3 : Int) := by omega
                have HA3 := Lib.hid hA3
                have hA3l : A3 ≤ s.size := by omega
                rw [hA3] at hza
                clear hA3
                by_cases q2 : A3 < s.size
                · have t2 : decide ((A3 : Int) < (s.size : Int)) = true := decide_eq_true (by omega)
                  obtain ⟨K3, hK3⟩ : ∃ A, f + zz = A := ⟨_, rfl⟩
                  have d4 : (f : Int) + (zz : Int) = (K3 : Int) := by omega
                  have HK3 := Lib.hid hK3
                  have hK3l : K3 < s.size := by have := HA3.out; omega
                  clear hK3
                  obtain ⟨u, hu⟩ : ∃ z, (s[K3]'hK3l).toNat = z := ⟨_, rfl⟩
                  have HBu : Hid (byt s K3 = u) := Lib.hid ((byt_at s K3 hK3l).trans hu)
                  have huI : (((s[K3]'hK3l).toNat : Nat) : Int) = (u : Int) := by rw [hu]
                  have hul : u < 256 := by rw [← hu]; exact UInt8.toNat_lt _
                  clear hu
                  obtain ⟨v, hv⟩ : ∃ z, (s[A3]'q2).toNat = z := ⟨_, rfl⟩
                  have HBv : Hid (byt s A3 = v) := Lib.hid ((byt_at s A3 q2).trans hv)
                  have hvI : (((s[A3]'q2).toNat : Nat) : Int) = (v : Int) := by rw [hv]
                  have hvl : v < 256 := by rw [← hv]; exact UInt8.toNat_lt _
                  clear hv
                  have hzn : zz + 1 ≤ 258 := by omega
                  have hzan : a + (zz + 1) ≤ s.size := by have := HA3.out; omega
                  by_cases q3 : u = v
                  · have t3 : ((u : Int) == (v : Int)) = true := beq_iff_eq.2 (by omega)
                    have HMY : Hid (Mt.mlf (byt s) s.size f a (zz + 1) = L) := Lib.hid (by rw [← HM.out]; exact (Mt.mlf_yes ⟨q1, by have := HA3.out; omega, by rw [HK3.out, HA3.out, HBu.out, HBv.out]; exact q3⟩).symm)
                    obtain ⟨wa1, wa2⟩ : IntKind.i64.wrap (A3 : Int) = (A3 : Int) ∧ IntKind.i64.wrap (K3 : Int) = (K3 : Int) := ⟨wrapi (by omega) (by omega), wrapi (by omega) (by omega)⟩
                    go_wp2_with fail
                    have X_0 := Lib.hid (Ext.refl wr)
                    refine wp_region_held_drew (S := fun w' => True) (by kernel_rfl) trivial (fun hHeld => ?_)
                    clear hHeld
                    refine anyH_world (fun wz => Ext wr wz) (show Ext wr wr.drew from Below.drew (Ext.refl wr)) ?_
                    rintro w1 h
                    have X_1 := Lib.hid (X_0.out.trans h)
                    clear h X_0
                    have hHeld : True := trivial
                    refine wpAnyH_take (i := 0) (v := ?_) rfl (by kernel_rfl) (by kernel_rfl) (by kernel_rfl) (fun _ _ _ h => h) (Or.inl ⟨by kernel_rfl, ?_⟩) hHeld ?_
                    rotate_left
                    · intro w hSw
                      (try dsimp only at hSw)
                      go_split_ands
                      go_simp
                      (try with_reducible rfl)
                    try simp only [Act.put, List.getElem_toArray, List.getElem_cons_succ, List.getElem_cons_zero, List.setIfInBounds_toArray, List.set_cons_zero, List.set_cons_succ]
                    refine wpAnyH_take (i := 1) (v := ?_) rfl (by kernel_rfl) (by kernel_rfl) (by kernel_rfl) (fun _ _ _ h => h) (Or.inl ⟨by kernel_rfl, ?_⟩) hHeld ?_
                    rotate_left
                    · intro w hSw
                      (try dsimp only at hSw)
                      go_split_ands
                      go_simp
                      (try with_reducible rfl)
                    try simp only [Act.put, List.getElem_toArray, List.getElem_cons_succ, List.getElem_cons_zero, List.setIfInBounds_toArray, List.set_cons_zero, List.set_cons_succ]
                    refine wpAnyH_take (i := 2) (v := ?_) rfl (by kernel_rfl) (by kernel_rfl) (by kernel_rfl) (fun _ _ _ h => h) (Or.inl ⟨by kernel_rfl, ?_⟩) hHeld ?_
                    rotate_left
                    · intro w hSw
                      (try dsimp only at hSw)
                      go_split_ands
                      go_simp
                      (try with_reducible rfl)
                    try simp only [Act.put, List.getElem_toArray, List.getElem_cons_succ, List.getElem_cons_zero, List.setIfInBounds_toArray, List.set_cons_zero, List.set_cons_succ]
                    refine wpAnyH_take (i := 3) (v := ?_) rfl (by kernel_rfl) (by kernel_rfl) (by kernel_rfl) (fun _ _ _ h => h) (Or.inl ⟨by kernel_rfl, ?_⟩) hHeld ?_
                    rotate_left
                    · intro w hSw
                      (try dsimp only at hSw)
                      go_split_ands
                      go_simp
                      (try with_reducible rfl)
                    try simp only [Act.put, List.getElem_toArray, List.getElem_cons_succ, List.getElem_cons_zero, List.setIfInBounds_toArray, List.set_cons_zero, List.set_cons_succ]
                    refine wpAnyH_take (i := 4) (v := ?_) rfl (by kernel_rfl) (by kernel_rfl) (by kernel_rfl) (fun _ _ _ h => h) (Or.inl ⟨by kernel_rfl, ?_⟩) hHeld ?_
                    rotate_left
                    · intro w hSw
                      (try dsimp only at hSw)
                      go_split_ands
                      go_simp
                      (try with_reducible rfl)
                    try simp only [Act.put, List.getElem_toArray, List.getElem_cons_succ, List.getElem_cons_zero, List.setIfInBounds_toArray, List.set_cons_zero, List.set_cons_succ]
                    refine wpAnyH_take (i := 5) (v := ?_) rfl (by kernel_rfl) (by kernel_rfl) (by kernel_rfl) (fun _ _ _ h => h) (Or.inl ⟨by kernel_rfl, ?_⟩) hHeld ?_
                    rotate_left
                    · intro w hSw
                      (try dsimp only at hSw)
                      go_split_ands
                      go_simp
                      (try with_reducible rfl)
                    try simp only [Act.put, List.getElem_toArray, List.getElem_cons_succ, List.getElem_cons_zero, List.setIfInBounds_toArray, List.set_cons_zero, List.set_cons_succ]
                    refine wpAnyH_take (i := 6) (v := ?_) rfl (by kernel_rfl) (by kernel_rfl) (by kernel_rfl) (fun _ _ _ h => h) (Or.inl ⟨by kernel_rfl, ?_⟩) hHeld ?_
                    rotate_left
                    · intro w hSw
                      (try dsimp only at hSw)
                      go_split_ands
                      go_simp
                      (try with_reducible rfl)
                    try simp only [Act.put, List.getElem_toArray, List.getElem_cons_succ, List.getElem_cons_zero, List.setIfInBounds_toArray, List.set_cons_zero, List.set_cons_succ]
                    refine wpAnyH_take (i := 7) (v := ?_) rfl (by kernel_rfl) (by kernel_rfl) (by kernel_rfl) (fun _ _ _ h => h) (Or.inl ⟨by kernel_rfl, ?_⟩) hHeld ?_
                    rotate_left
                    · intro w hSw
                      (try dsimp only at hSw)
                      go_split_ands
                      go_simp
                      (try with_reducible rfl)
                    try simp only [Act.put, List.getElem_toArray, List.getElem_cons_succ, List.getElem_cons_zero, List.setIfInBounds_toArray, List.set_cons_zero, List.set_cons_succ]
                    refine wpAnyH_take (i := 8) (v := ?_) rfl (by kernel_rfl) (by kernel_rfl) (by kernel_rfl) (fun _ _ _ h => h) (Or.inl ⟨by kernel_rfl, ?_⟩) hHeld ?_
                    rotate_left
                    · intro w hSw
                      (try dsimp only at hSw)
                      go_split_ands
                      go_simp
                      (try with_reducible rfl)
                    try simp only [Act.put, List.getElem_toArray, List.getElem_cons_succ, List.getElem_cons_zero, List.setIfInBounds_toArray, List.set_cons_zero, List.set_cons_succ]
                    refine wpAnyH_take (i := 9) (v := ?_) rfl (by kernel_rfl) (by kernel_rfl) (by kernel_rfl) (fun _ _ _ h => h) (Or.inl ⟨by kernel_rfl, ?_⟩) hHeld ?_
                    rotate_left
                    · intro w hSw
                      (try dsimp only at hSw)
                      go_split_ands
                      go_simp
                      (try with_reducible rfl)
                    try simp only [Act.put, List.getElem_toArray, List.getElem_cons_succ, List.getElem_cons_zero, List.setIfInBounds_toArray, List.set_cons_zero, List.set_cons_succ]
                    refine wpAnyH_take (i := 10) (v := ?_) rfl (by kernel_rfl) (by kernel_rfl) (by kernel_rfl) (fun _ _ _ h => h) (Or.inl ⟨by kernel_rfl, ?_⟩) hHeld ?_
                    rotate_left
                    · intro w hSw
                      (try dsimp only at hSw)
                      go_split_ands
                      go_simp
                      (try with_reducible rfl)
                    try simp only [Act.put, List.getElem_toArray, List.getElem_cons_succ, List.getElem_cons_zero, List.setIfInBounds_toArray, List.set_cons_zero, List.set_cons_succ]
                    refine wpAnyH_take (i := 11) (v := ?_) rfl (by kernel_rfl) (by kernel_rfl) (by kernel_rfl) (fun _ _ _ h => h) (Or.inl ⟨by kernel_rfl, ?_⟩) hHeld ?_
                    rotate_left
                    · intro w hSw
                      (try dsimp only at hSw)
                      go_split_ands
                      go_simp
                      (try with_reducible rfl)
                    try simp only [Act.put, List.getElem_toArray, List.getElem_cons_succ, List.getElem_cons_zero, List.setIfInBounds_toArray, List.set_cons_zero, List.set_cons_succ]
                    refine wpAnyH_take (i := 12) (v := ?_) rfl (by kernel_rfl) (by kernel_rfl) (by kernel_rfl) (fun _ _ _ h => h) (Or.inl ⟨by kernel_rfl, ?_⟩) hHeld ?_
                    rotate_left
                    · intro w hSw
                      (try dsimp only at hSw)
                      go_split_ands
                      go_simp
                      (try with_reducible rfl)
                    try simp only [Act.put, List.getElem_toArray, List.getElem_cons_succ, List.getElem_cons_zero, List.setIfInBounds_toArray, List.set_cons_zero, List.set_cons_succ]
                    refine wpAnyH_take (i := 13) (v := ?_) rfl (by kernel_rfl) (by kernel_rfl) (by kernel_rfl) (fun _ _ _ h => h) (Or.inl ⟨by kernel_rfl, ?_⟩) hHeld ?_
                    rotate_left
                    · intro w hSw
                      (try dsimp only at hSw)
                      go_split_ands
                      go_simp
                      (try with_reducible rfl)
                    try simp only [Act.put, List.getElem_toArray, List.getElem_cons_succ, List.getElem_cons_zero, List.setIfInBounds_toArray, List.set_cons_zero, List.set_cons_succ]
                    refine wpAnyH_take (i := 14) (v := ?_) rfl (by kernel_rfl) (by kernel_rfl) (by kernel_rfl) (fun _ _ _ h => h) (Or.inl ⟨by kernel_rfl, ?_⟩) hHeld ?_
                    rotate_left
                    · intro w hSw
                      (try dsimp only at hSw)
                      go_split_ands
                      go_simp
                      (try with_reducible rfl)
                    try simp only [Act.put, List.getElem_toArray, List.getElem_cons_succ, List.getElem_cons_zero, List.setIfInBounds_toArray, List.set_cons_zero, List.set_cons_succ]
                    refine wpAnyH_take (i := 15) (v := ?_) rfl (by kernel_rfl) (by kernel_rfl) (by kernel_rfl) (fun _ _ _ h => h) (Or.inl ⟨by kernel_rfl, ?_⟩) hHeld ?_
                    rotate_left
                    · intro w hSw
                      (try dsimp only at hSw)
                      go_split_ands
                      go_simp
                      (try with_reducible rfl)
                    try simp only [Act.put, List.getElem_toArray, List.getElem_cons_succ, List.getElem_cons_zero, List.setIfInBounds_toArray, List.set_cons_zero, List.set_cons_succ]
                    refine wpAnyH_take (i := 16) (v := ?_) rfl (by kernel_rfl) (by kernel_rfl) (by kernel_rfl) (fun _ _ _ h => h) (Or.inl ⟨by kernel_rfl, ?_⟩) hHeld ?_
                    rotate_left
                    · intro w hSw
                      (try dsimp only at hSw)
                      go_split_ands
                      go_simp
                      (try with_reducible rfl)
                    try simp only [Act.put, List.getElem_toArray, List.getElem_cons_succ, List.getElem_cons_zero, List.setIfInBounds_toArray, List.set_cons_zero, List.set_cons_succ]
                    refine wpAnyH_take (i := 17) (v := ?_) rfl (by kernel_rfl) (by kernel_rfl) (by kernel_rfl) (fun _ _ _ h => h) (Or.inl ⟨by kernel_rfl, ?_⟩) hHeld ?_
                    rotate_left
                    · intro w hSw
                      (try dsimp only at hSw)
                      go_split_ands
                      go_simp
                      (try with_reducible rfl)
                    try simp only [Act.put, List.getElem_toArray, List.getElem_cons_succ, List.getElem_cons_zero, List.setIfInBounds_toArray, List.set_cons_zero, List.set_cons_succ]
                    refine wpAnyH_take (i := 18) (v := ?_) rfl (by kernel_rfl) (by kernel_rfl) (by kernel_rfl) (fun _ _ _ h => h) (Or.inl ⟨by kernel_rfl, ?_⟩) hHeld ?_
                    rotate_left
                    · intro w hSw
                      (try dsimp only at hSw)
                      go_split_ands
                      go_simp
                      (try with_reducible rfl)
                    try simp only [Act.put, List.getElem_toArray, List.getElem_cons_succ, List.getElem_cons_zero, List.setIfInBounds_toArray, List.set_cons_zero, List.set_cons_succ]
                    refine wpAnyH_take (i := 19) (v := ?_) rfl (by kernel_rfl) (by kernel_rfl) (by kernel_rfl) (fun _ _ _ h => h) (Or.inl ⟨by kernel_rfl, ?_⟩) hHeld ?_
                    rotate_left
                    · intro w hSw
                      (try dsimp only at hSw)
                      go_split_ands
                      go_simp
                      (try with_reducible rfl)
                    try simp only [Act.put, List.getElem_toArray, List.getElem_cons_succ, List.getElem_cons_zero, List.setIfInBounds_toArray, List.set_cons_zero, List.set_cons_succ]
                    refine wpAnyH_take (i := 20) (v := ?_) rfl (by kernel_rfl) (by kernel_rfl) (by kernel_rfl) (fun _ _ _ h => h) (Or.inl ⟨by kernel_rfl, ?_⟩) hHeld ?_
                    rotate_left
                    · intro w hSw
                      (try dsimp only at hSw)
                      go_split_ands
                      go_simp
                      (try with_reducible rfl)
                    try simp only [Act.put, List.getElem_toArray, List.getElem_cons_succ, List.getElem_cons_zero, List.setIfInBounds_toArray, List.set_cons_zero, List.set_cons_succ]
                    refine wpAnyH_take (i := 21) (v := ?_) rfl (by kernel_rfl) (by kernel_rfl) (by kernel_rfl) (fun _ _ _ h => h) (Or.inl ⟨by kernel_rfl, ?_⟩) hHeld ?_
                    rotate_left
                    · intro w hSw
                      (try dsimp only at hSw)
                      go_split_ands
                      go_simp
                      (try with_reducible rfl)
                    try simp only [Act.put, List.getElem_toArray, List.getElem_cons_succ, List.getElem_cons_zero, List.setIfInBounds_toArray, List.set_cons_zero, List.set_cons_succ]
                    refine wpAnyH_take (i := 22) (v := ?_) rfl (by kernel_rfl) (by kernel_rfl) (by kernel_rfl) (fun _ _ _ h => h) (Or.inl ⟨by kernel_rfl, ?_⟩) hHeld ?_
                    rotate_left
                    · intro w hSw
                      (try dsimp only at hSw)
                      go_split_ands
                      go_simp
                      (try with_reducible rfl)
                    try simp only [Act.put, List.getElem_toArray, List.getElem_cons_succ, List.getElem_cons_zero, List.setIfInBounds_toArray, List.set_cons_zero, List.set_cons_succ]
                    refine wpAnyH_done (by kernel_rfl) ?_ _
                    clear hHeld
                    clear wa1 wa2
                    go_wp2_with fail
                    go_roundw
                    case rel => exact ⟨zz + 1, by go_num, hzn, hzan, HMY, Lib.hid (HF.out.step X_1.out)⟩
                    case measure => simp [intOf]; omega
                  · have t3 : ((u : Int) == (v : Int)) = false := beq_eq_false_iff_ne.2 (by omega)
                    obtain ⟨wa1, wa2⟩ : IntKind.i64.wrap (A3 : Int) = (A3 : Int) ∧ IntKind.i64.wrap (K3 : Int) = (K3 : Int) := ⟨wrapi (by omega) (by omega), wrapi (by omega) (by omega)⟩
                    go_wp2_with fail
                    have X_0 := Lib.hid (Ext.refl wr)
                    refine wp_region_held_drew (S := fun w' => True) (by kernel_rfl) trivial (fun hHeld => ?_)
                    clear hHeld
                    refine anyH_world (fun wz => Ext wr wz) (show Ext wr wr.drew from Below.drew (Ext.refl wr)) ?_
                    rintro w1 h
                    have X_1 := Lib.hid (X_0.out.trans h)
                    clear h X_0
                    have hHeld : True := trivial
                    refine wpAnyH_take (i := 0) (v := ?_) rfl (by kernel_rfl) (by kernel_rfl) (by kernel_rfl) (fun _ _ _ h => h) (Or.inl ⟨by kernel_rfl, ?_⟩) hHeld ?_
                    rotate_left
                    · intro w hSw
                      (try dsimp only at hSw)
                      go_split_ands
                      go_simp
                      (try with_reducible rfl)
                    try simp only [Act.put, List.getElem_toArray, List.getElem_cons_succ, List.getElem_cons_zero, List.setIfInBounds_toArray, List.set_cons_zero, List.set_cons_succ]
                    refine wpAnyH_take (i := 1) (v := ?_) rfl (by kernel_rfl) (by kernel_rfl) (by kernel_rfl) (fun _ _ _ h => h) (Or.inl ⟨by kernel_rfl, ?_⟩) hHeld ?_
                    rotate_left
                    · intro w hSw
                      (try dsimp only at hSw)
                      go_split_ands
                      go_simp
                      (try with_reducible rfl)
                    try simp only [Act.put, List.getElem_toArray, List.getElem_cons_succ, List.getElem_cons_zero, List.setIfInBounds_toArray, List.set_cons_zero, List.set_cons_succ]
                    refine wpAnyH_take (i := 2) (v := ?_) rfl (by kernel_rfl) (by kernel_rfl) (by kernel_rfl) (fun _ _ _ h => h) (Or.inl ⟨by kernel_rfl, ?_⟩) hHeld ?_
                    rotate_left
                    · intro w hSw
                      (try dsimp only at hSw)
                      go_split_ands
                      go_simp
                      (try with_reducible rfl)
                    try simp only [Act.put, List.getElem_toArray, List.getElem_cons_succ, List.getElem_cons_zero, List.setIfInBounds_toArray, List.set_cons_zero, List.set_cons_succ]
                    refine wpAnyH_take (i := 3) (v := ?_) rfl (by kernel_rfl) (by kernel_rfl) (by kernel_rfl) (fun _ _ _ h => h) (Or.inl ⟨by kernel_rfl, ?_⟩) hHeld ?_
                    rotate_left
                    · intro w hSw
                      (try dsimp only at hSw)
                      go_split_ands
                      go_simp
                      (try with_reducible rfl)
                    try simp only [Act.put, List.getElem_toArray, List.getElem_cons_succ, List.getElem_cons_zero, List.setIfInBounds_toArray, List.set_cons_zero, List.set_cons_succ]
                    refine wpAnyH_take (i := 4) (v := ?_) rfl (by kernel_rfl) (by kernel_rfl) (by kernel_rfl) (fun _ _ _ h => h) (Or.inl ⟨by kernel_rfl, ?_⟩) hHeld ?_
                    rotate_left
                    · intro w hSw
                      (try dsimp only at hSw)
                      go_split_ands
                      go_simp
                      (try with_reducible rfl)
                    try simp only [Act.put, List.getElem_toArray, List.getElem_cons_succ, List.getElem_cons_zero, List.setIfInBounds_toArray, List.set_cons_zero, List.set_cons_succ]
                    refine wpAnyH_take (i := 5) (v := ?_) rfl (by kernel_rfl) (by kernel_rfl) (by kernel_rfl) (fun _ _ _ h => h) (Or.inl ⟨by kernel_rfl, ?_⟩) hHeld ?_
                    rotate_left
                    · intro w hSw
                      (try dsimp only at hSw)
                      go_split_ands
                      go_simp
                      (try with_reducible rfl)
                    try simp only [Act.put, List.getElem_toArray, List.getElem_cons_succ, List.getElem_cons_zero, List.setIfInBounds_toArray, List.set_cons_zero, List.set_cons_succ]
                    refine wpAnyH_take (i := 6) (v := ?_) rfl (by kernel_rfl) (by kernel_rfl) (by kernel_rfl) (fun _ _ _ h => h) (Or.inl ⟨by kernel_rfl, ?_⟩) hHeld ?_
                    rotate_left
                    · intro w hSw
                      (try dsimp only at hSw)
                      go_split_ands
                      go_simp
                      (try with_reducible rfl)
                    try simp only [Act.put, List.getElem_toArray, List.getElem_cons_succ, List.getElem_cons_zero, List.setIfInBounds_toArray, List.set_cons_zero, List.set_cons_succ]
                    refine wpAnyH_take (i := 7) (v := ?_) rfl (by kernel_rfl) (by kernel_rfl) (by kernel_rfl) (fun _ _ _ h => h) (Or.inl ⟨by kernel_rfl, ?_⟩) hHeld ?_
                    rotate_left
                    · intro w hSw
                      (try dsimp only at hSw)
                      go_split_ands
                      go_simp
                      (try with_reducible rfl)
                    try simp only [Act.put, List.getElem_toArray, List.getElem_cons_succ, List.getElem_cons_zero, List.setIfInBounds_toArray, List.set_cons_zero, List.set_cons_succ]
                    refine wpAnyH_take (i := 8) (v := ?_) rfl (by kernel_rfl) (by kernel_rfl) (by kernel_rfl) (fun _ _ _ h => h) (Or.inl ⟨by kernel_rfl, ?_⟩) hHeld ?_
                    rotate_left
                    · intro w hSw
                      (try dsimp only at hSw)
                      go_split_ands
                      go_simp
                      (try with_reducible rfl)
                    try simp only [Act.put, List.getElem_toArray, List.getElem_cons_succ, List.getElem_cons_zero, List.setIfInBounds_toArray, List.set_cons_zero, List.set_cons_succ]
                    refine wpAnyH_take (i := 9) (v := ?_) rfl (by kernel_rfl) (by kernel_rfl) (by kernel_rfl) (fun _ _ _ h => h) (Or.inl ⟨by kernel_rfl, ?_⟩) hHeld ?_
                    rotate_left
                    · intro w hSw
                      (try dsimp only at hSw)
                      go_split_ands
                      go_simp
                      (try with_reducible rfl)
                    try simp only [Act.put, List.getElem_toArray, List.getElem_cons_succ, List.getElem_cons_zero, List.setIfInBounds_toArray, List.set_cons_zero, List.set_cons_succ]
                    refine wpAnyH_take (i := 10) (v := ?_) rfl (by kernel_rfl) (by kernel_rfl) (by kernel_rfl) (fun _ _ _ h => h) (Or.inl ⟨by kernel_rfl, ?_⟩) hHeld ?_
                    rotate_left
                    · intro w hSw
                      (try dsimp only at hSw)
                      go_split_ands
                      go_simp
                      (try with_reducible rfl)
                    try simp only [Act.put, List.getElem_toArray, List.getElem_cons_succ, List.getElem_cons_zero, List.setIfInBounds_toArray, List.set_cons_zero, List.set_cons_succ]
                    refine wpAnyH_take (i := 11) (v := ?_) rfl (by kernel_rfl) (by kernel_rfl) (by kernel_rfl) (fun _ _ _ h => h) (Or.inl ⟨by kernel_rfl, ?_⟩) hHeld ?_
                    rotate_left
                    · intro w hSw
                      (try dsimp only at hSw)
                      go_split_ands
                      go_simp
                      (try with_reducible rfl)
                    try simp only [Act.put, List.getElem_toArray, List.getElem_cons_succ, List.getElem_cons_zero, List.setIfInBounds_toArray, List.set_cons_zero, List.set_cons_succ]
                    refine wpAnyH_take (i := 12) (v := ?_) rfl (by kernel_rfl) (by kernel_rfl) (by kernel_rfl) (fun _ _ _ h => h) (Or.inl ⟨by kernel_rfl, ?_⟩) hHeld ?_
                    rotate_left
                    · intro w hSw
                      (try dsimp only at hSw)
                      go_split_ands
                      go_simp
                      (try with_reducible rfl)
                    try simp only [Act.put, List.getElem_toArray, List.getElem_cons_succ, List.getElem_cons_zero, List.setIfInBounds_toArray, List.set_cons_zero, List.set_cons_succ]
                    refine wpAnyH_take (i := 13) (v := ?_) rfl (by kernel_rfl) (by kernel_rfl) (by kernel_rfl) (fun _ _ _ h => h) (Or.inl ⟨by kernel_rfl, ?_⟩) hHeld ?_
                    rotate_left
                    · intro w hSw
                      (try dsimp only at hSw)
                      go_split_ands
                      go_simp
                      (try with_reducible rfl)
                    try simp only [Act.put, List.getElem_toArray, List.getElem_cons_succ, List.getElem_cons_zero, List.setIfInBounds_toArray, List.set_cons_zero, List.set_cons_succ]
                    refine wpAnyH_take (i := 14) (v := ?_) rfl (by kernel_rfl) (by kernel_rfl) (by kernel_rfl) (fun _ _ _ h => h) (Or.inl ⟨by kernel_rfl, ?_⟩) hHeld ?_
                    rotate_left
                    · intro w hSw
                      (try dsimp only at hSw)
                      go_split_ands
                      go_simp
                      (try with_reducible rfl)
                    try simp only [Act.put, List.getElem_toArray, List.getElem_cons_succ, List.getElem_cons_zero, List.setIfInBounds_toArray, List.set_cons_zero, List.set_cons_succ]
                    refine wpAnyH_take (i := 15) (v := ?_) rfl (by kernel_rfl) (by kernel_rfl) (by kernel_rfl) (fun _ _ _ h => h) (Or.inl ⟨by kernel_rfl, ?_⟩) hHeld ?_
                    rotate_left
                    · intro w hSw
                      (try dsimp only at hSw)
                      go_split_ands
                      go_simp
                      (try with_reducible rfl)
                    try simp only [Act.put, List.getElem_toArray, List.getElem_cons_succ, List.getElem_cons_zero, List.setIfInBounds_toArray, List.set_cons_zero, List.set_cons_succ]
                    refine wpAnyH_take (i := 16) (v := ?_) rfl (by kernel_rfl) (by kernel_rfl) (by kernel_rfl) (fun _ _ _ h => h) (Or.inl ⟨by kernel_rfl, ?_⟩) hHeld ?_
                    rotate_left
                    · intro w hSw
                      (try dsimp only at hSw)
                      go_split_ands
                      go_simp
                      (try with_reducible rfl)
                    try simp only [Act.put, List.getElem_toArray, List.getElem_cons_succ, List.getElem_cons_zero, List.setIfInBounds_toArray, List.set_cons_zero, List.set_cons_succ]
                    refine wpAnyH_take (i := 17) (v := ?_) rfl (by kernel_rfl) (by kernel_rfl) (by kernel_rfl) (fun _ _ _ h => h) (Or.inl ⟨by kernel_rfl, ?_⟩) hHeld ?_
                    rotate_left
                    · intro w hSw
                      (try dsimp only at hSw)
                      go_split_ands
                      go_simp
                      (try with_reducible rfl)
                    try simp only [Act.put, List.getElem_toArray, List.getElem_cons_succ, List.getElem_cons_zero, List.setIfInBounds_toArray, List.set_cons_zero, List.set_cons_succ]
                    refine wpAnyH_take (i := 18) (v := ?_) rfl (by kernel_rfl) (by kernel_rfl) (by kernel_rfl) (fun _ _ _ h => h) (Or.inl ⟨by kernel_rfl, ?_⟩) hHeld ?_
                    rotate_left
                    · intro w hSw
                      (try dsimp only at hSw)
                      go_split_ands
                      go_simp
                      (try with_reducible rfl)
                    try simp only [Act.put, List.getElem_toArray, List.getElem_cons_succ, List.getElem_cons_zero, List.setIfInBounds_toArray, List.set_cons_zero, List.set_cons_succ]
                    refine wpAnyH_take (i := 19) (v := ?_) rfl (by kernel_rfl) (by kernel_rfl) (by kernel_rfl) (fun _ _ _ h => h) (Or.inl ⟨by kernel_rfl, ?_⟩) hHeld ?_
                    rotate_left
                    · intro w hSw
                      (try dsimp only at hSw)
                      go_split_ands
                      go_simp
                      (try with_reducible rfl)
                    try simp only [Act.put, List.getElem_toArray, List.getElem_cons_succ, List.getElem_cons_zero, List.setIfInBounds_toArray, List.set_cons_zero, List.set_cons_succ]
                    refine wpAnyH_take (i := 20) (v := ?_) rfl (by kernel_rfl) (by kernel_rfl) (by kernel_rfl) (fun _ _ _ h => h) (Or.inl ⟨by kernel_rfl, ?_⟩) hHeld ?_
                    rotate_left
                    · intro w hSw
                      (try dsimp only at hSw)
                      go_split_ands
                      go_simp
                      (try with_reducible rfl)
                    try simp only [Act.put, List.getElem_toArray, List.getElem_cons_succ, List.getElem_cons_zero, List.setIfInBounds_toArray, List.set_cons_zero, List.set_cons_succ]
                    refine wpAnyH_take (i := 21) (v := ?_) rfl (by kernel_rfl) (by kernel_rfl) (by kernel_rfl) (fun _ _ _ h => h) (Or.inl ⟨by kernel_rfl, ?_⟩) hHeld ?_
                    rotate_left
                    · intro w hSw
                      (try dsimp only at hSw)
                      go_split_ands
                      go_simp
                      (try with_reducible rfl)
                    try simp only [Act.put, List.getElem_toArray, List.getElem_cons_succ, List.getElem_cons_zero, List.setIfInBounds_toArray, List.set_cons_zero, List.set_cons_succ]
                    refine wpAnyH_take (i := 22) (v := ?_) rfl (by kernel_rfl) (by kernel_rfl) (by kernel_rfl) (fun _ _ _ h => h) (Or.inl ⟨by kernel_rfl, ?_⟩) hHeld ?_
                    rotate_left
                    · intro w hSw
                      (try dsimp only at hSw)
                      go_split_ands
                      go_simp
                      (try with_reducible rfl)
                    try simp only [Act.put, List.getElem_toArray, List.getElem_cons_succ, List.getElem_cons_zero, List.setIfInBounds_toArray, List.set_cons_zero, List.set_cons_succ]
                    refine wpAnyH_done (by kernel_rfl) ?_ _
                    clear hHeld
                    clear wa1 wa2 t1 t2 t3 d3 d4
                    rw [← HA3.out] at hza
                    have HLz : Hid (L = zz) := Lib.hid (by rw [← HM.out]; exact Mt.mlf_no (fun h => q3 (by have := h.2.2; rwa [HK3.out, HA3.out, HBu.out, HBv.out] at this)))
                    have HF5 := Lib.hid (HF.out.step X_1.out)
                    clear HF X_1
                    go_wp2_with fail
                    go_loopw [9] (fun k wr => ∃ (k0 : Nat) (Bf : Nat → Nat), k = .int .i64 (k0 : Int) ∧ 3 ≤ k0 ∧ k0 ≤ 3 + zz ∧ Hid (BR w wr bb s.size Bf) ∧ Hid (Mt.BackIn (byt s) s.size W a f k0 Bf)) (fun k _ => zz + 1 - (intOf k).toNat)
                    case atStart => exact ⟨3, _, rfl, by omega, by omega, HF5, HR⟩
                    case round =>
                      clear HF5 HR
                      obtain ⟨k0, Bg, rfl, hk3, hkm, HF, HRI⟩ := hrel
                      by_cases hle : k0 ≤ zz
                      · have hak : a + k0 ≤ s.size := by omega
                        have HRM := Lib.hid (HRI.out.more hfl hw hlt hk3 (by rw [HLL.out, HLz.out]; exact hle))
                        have b0 := HRI.out.le
                        have b1 := HRI.out.back.le (a + k0) (by omega) hak
                        obtain ⟨X0, hX0⟩ : ∃ z, Bg a = z := ⟨_, rfl⟩
                        obtain ⟨X1, hX1⟩ : ∃ z, Bg (a + k0) = z := ⟨_, rfl⟩
                        obtain ⟨A1, hA1⟩ : ∃ z, a + k0 = z := ⟨_, rfl⟩
                        rw [hX0] at b0
                        rw [hX1] at b1
                        obtain ⟨c0, f0⟩ := HF.out.cv a (by omega)
                        obtain ⟨c1, f1⟩ := HF.out.cv (a + k0) (by omega)
                        have HUS : Hid (∀ i, i < s.size + 1 → Mt.upd Bg a X0 i = Bg i) := Lib.hid (fun i _ => by rw [← hX0]; exact upd_same Bg a i)
                        simp only [hX0] at c0
                        simp only [hX1] at c1
                        rw [hA1] at c1 f1
                        have d1 : (a : Int) + (k0 : Int) = (A1 : Int) := by omega
                        have e1 : A1 < N1 := by omega
                        have e0 : a < N1 := by omega
                        have t3 : (k0 : Int) ≤ (zz : Int) := by omega
                        rw [hX1, hX0] at HRM
                        have HS := Lib.hid (HF.out.set a (X1 + 1) (by omega))
                        have hX1c : ((X1 + 1 : Nat) : Int) = (X1 : Int) + 1 := by omega
                        rw [hX1c] at HS
                        have HXX := Lib.hid (And.intro hX0 (And.intro hX1 hA1))
                        clear hX0 hX1 hA1
                        by_cases hmin : X1 + 1 < X0
                        · have t4 : decide ((X1 : Int) + 1 < (X0 : Int)) = true := decide_eq_true (by omega)
                          rw [if_pos hmin] at HRM
                          obtain ⟨wa1, wa2⟩ : IntKind.i64.wrap (A1 : Int) = (A1 : Int) ∧ IntKind.i64.wrap ((X1 : Int) + 1) = (X1 : Int) + 1 := ⟨wrapi (by omega) (by omega), wrapi (by omega) (by omega)⟩
                          go_wp2_with fail
                          go_quiet (fail)
                          go_wp2_with fail
                          clear wa1 wa2 c0 c1 f0 f1 e0 e1 d1
                          go_roundw
                          case rel => exact ⟨k0 + 1, _, by go_num, by omega, by omega, Lib.hid (HS.out.drewN _), HRM⟩
                          case measure => simp [intOf]; omega
                        · have t4 : decide ((X1 : Int) + 1 < (X0 : Int)) = false := decide_eq_false (by omega)
                          rw [if_neg hmin] at HRM
                          obtain ⟨wa1, wa2⟩ : IntKind.i64.wrap (A1 : Int) = (A1 : Int) ∧ IntKind.i64.wrap ((X1 : Int) + 1) = (X1 : Int) + 1 := ⟨wrapi (by omega) (by omega), wrapi (by omega) (by omega)⟩
                          go_wp2_with fail
                          go_quiet (fail)
                          go_wp2_with fail
                          clear wa1 wa2 c0 c1 f0 f1 e0 e1 d1
                          go_roundw
                          case rel => exact ⟨k0 + 1, _, by go_num, by omega, by omega, Lib.hid ((HF.out.congr HUS.out).step (by repeat (first | exact Ext.refl _ | refine Ext.drewN ?_ _))), HRM⟩
                          case measure => simp [intOf]; omega
                      · have t3 : ¬ (k0 : Int) ≤ (zz : Int) := by omega
                        have HRN := Lib.hid (HRI.out.from hfl (by rw [HLL.out, HLz.out]; omega))
                        go_wp2_with fail
                        go_roundw
                        case rel => exact ⟨f + 1, Bg, by go_num, by omega, HF, HRN⟩
                        case measure => simp [intOf]; omega
                · have t2 : decide ((A3 : Int) < (s.size : Int)) = false := decide_eq_false (by omega)
                  have wa1 : IntKind.i64.wrap (A3 : Int) = (A3 : Int) := wrapi (by omega) (by omega)
                  go_wp2_with fail
                  have X_0 := Lib.hid (Ext.refl wr)
                  refine wp_region_held_drew (S := fun w' => True) (by kernel_rfl) trivial (fun hHeld => ?_)
                  clear hHeld
                  refine anyH_world (fun wz => Ext wr wz) (show Ext wr wr.drew from Below.drew (Ext.refl wr)) ?_
                  rintro w1 h
                  have X_1 := Lib.hid (X_0.out.trans h)
                  clear h X_0
                  have hHeld : True := trivial
                  refine wpAnyH_take (i := 0) (v := ?_) rfl (by kernel_rfl) (by kernel_rfl) (by kernel_rfl) (fun _ _ _ h => h) (Or.inl ⟨by kernel_rfl, ?_⟩) hHeld ?_
                  rotate_left
                  · intro w hSw
                    (try dsimp only at hSw)
                    go_split_ands
                    go_simp
                    (try with_reducible rfl)
                  try simp only [Act.put, List.getElem_toArray, List.getElem_cons_succ, List.getElem_cons_zero, List.setIfInBounds_toArray, List.set_cons_zero, List.set_cons_succ]
                  refine wpAnyH_take (i := 1) (v := ?_) rfl (by kernel_rfl) (by kernel_rfl) (by kernel_rfl) (fun _ _ _ h => h) (Or.inl ⟨by kernel_rfl, ?_⟩) hHeld ?_
                  rotate_left
                  · intro w hSw
                    (try dsimp only at hSw)
                    go_split_ands
                    go_simp
                    (try with_reducible rfl)
                  try simp only [Act.put, List.getElem_toArray, List.getElem_cons_succ, List.getElem_cons_zero, List.setIfInBounds_toArray, List.set_cons_zero, List.set_cons_succ]
                  refine wpAnyH_take (i := 2) (v := ?_) rfl (by kernel_rfl) (by kernel_rfl) (by kernel_rfl) (fun _ _ _ h => h) (Or.inl ⟨by kernel_rfl, ?_⟩) hHeld ?_
                  rotate_left
                  · intro w hSw
                    (try dsimp only at hSw)
                    go_split_ands
                    go_simp
                    (try with_reducible rfl)
                  try simp only [Act.put, List.getElem_toArray, List.getElem_cons_succ, List.getElem_cons_zero, List.setIfInBounds_toArray, List.set_cons_zero, List.set_cons_succ]
                  refine wpAnyH_take (i := 3) (v := ?_) rfl (by kernel_rfl) (by kernel_rfl) (by kernel_rfl) (fun _ _ _ h => h) (Or.inl ⟨by kernel_rfl, ?_⟩) hHeld ?_
                  rotate_left
                  · intro w hSw
                    (try dsimp only at hSw)
                    go_split_ands
                    go_simp
                    (try with_reducible rfl)
                  try simp only [Act.put, List.getElem_toArray, List.getElem_cons_succ, List.getElem_cons_zero, List.setIfInBounds_toArray, List.set_cons_zero, List.set_cons_succ]
                  refine wpAnyH_take (i := 4) (v := ?_) rfl (by kernel_rfl) (by kernel_rfl) (by kernel_rfl) (fun _ _ _ h => h) (Or.inl ⟨by kernel_rfl, ?_⟩) hHeld ?_
                  rotate_left
                  · intro w hSw
                    (try dsimp only at hSw)
                    go_split_ands
                    go_simp
                    (try with_reducible rfl)
                  try simp only [Act.put, List.getElem_toArray, List.getElem_cons_succ, List.getElem_cons_zero, List.setIfInBounds_toArray, List.set_cons_zero, List.set_cons_succ]
                  refine wpAnyH_take (i := 5) (v := ?_) rfl (by kernel_rfl) (by kernel_rfl) (by kernel_rfl) (fun _ _ _ h => h) (Or.inl ⟨by kernel_rfl, ?_⟩) hHeld ?_
                  rotate_left
                  · intro w hSw
                    (try dsimp only at hSw)
                    go_split_ands
                    go_simp
                    (try with_reducible rfl)
                  try simp only [Act.put, List.getElem_toArray, List.getElem_cons_succ, List.getElem_cons_zero, List.setIfInBounds_toArray, List.set_cons_zero, List.set_cons_succ]
                  refine wpAnyH_take (i := 6) (v := ?_) rfl (by kernel_rfl) (by kernel_rfl) (by kernel_rfl) (fun _ _ _ h => h) (Or.inl ⟨by kernel_rfl, ?_⟩) hHeld ?_
                  rotate_left
                  · intro w hSw
                    (try dsimp only at hSw)
                    go_split_ands
                    go_simp
                    (try with_reducible rfl)
                  try simp only [Act.put, List.getElem_toArray, List.getElem_cons_succ, List.getElem_cons_zero, List.setIfInBounds_toArray, List.set_cons_zero, List.set_cons_succ]
                  refine wpAnyH_take (i := 7) (v := ?_) rfl (by kernel_rfl) (by kernel_rfl) (by kernel_rfl) (fun _ _ _ h => h) (Or.inl ⟨by kernel_rfl, ?_⟩) hHeld ?_
                  rotate_left
                  · intro w hSw
                    (try dsimp only at hSw)
                    go_split_ands
                    go_simp
                    (try with_reducible rfl)
                  try simp only [Act.put, List.getElem_toArray, List.getElem_cons_succ, List.getElem_cons_zero, List.setIfInBounds_toArray, List.set_cons_zero, List.set_cons_succ]
                  refine wpAnyH_take (i := 8) (v := ?_) rfl (by kernel_rfl) (by kernel_rfl) (by kernel_rfl) (fun _ _ _ h => h) (Or.inl ⟨by kernel_rfl, ?_⟩) hHeld ?_
                  rotate_left
                  · intro w hSw
                    (try dsimp only at hSw)
                    go_split_ands
                    go_simp
                    (try with_reducible rfl)
                  try simp only [Act.put, List.getElem_toArray, List.getElem_cons_succ, List.getElem_cons_zero, List.setIfInBounds_toArray, List.set_cons_zero, List.set_cons_succ]
                  refine wpAnyH_take (i := 9) (v := ?_) rfl (by kernel_rfl) (by kernel_rfl) (by kernel_rfl) (fun _ _ _ h => h) (Or.inl ⟨by kernel_rfl, ?_⟩) hHeld ?_
                  rotate_left
                  · intro w hSw
                    (try dsimp only at hSw)
                    go_split_ands
                    go_simp
                    (try with_reducible rfl)
                  try simp only [Act.put, List.getElem_toArray, List.getElem_cons_succ, List.getElem_cons_zero, List.setIfInBounds_toArray, List.set_cons_zero, List.set_cons_succ]
                  refine wpAnyH_take (i := 10) (v := ?_) rfl (by kernel_rfl) (by kernel_rfl) (by kernel_rfl) (fun _ _ _ h => h) (Or.inl ⟨by kernel_rfl, ?_⟩) hHeld ?_
                  rotate_left
                  · intro w hSw
                    (try dsimp only at hSw)
                    go_split_ands
                    go_simp
                    (try with_reducible rfl)
                  try simp only [Act.put, List.getElem_toArray, List.getElem_cons_succ, List.getElem_cons_zero, List.setIfInBounds_toArray, List.set_cons_zero, List.set_cons_succ]
                  refine wpAnyH_take (i := 11) (v := undef) rfl (by kernel_rfl) (by kernel_rfl) (by kernel_rfl) (fun _ _ _ h => h) (Or.inr ⟨by kernel_rfl, rfl⟩) hHeld ?_
                  try simp only [Act.put, List.getElem_toArray, List.getElem_cons_succ, List.getElem_cons_zero, List.setIfInBounds_toArray, List.set_cons_zero, List.set_cons_succ]
                  refine wpAnyH_take (i := 12) (v := undef) rfl (by kernel_rfl) (by kernel_rfl) (by kernel_rfl) (fun _ _ _ h => h) (Or.inr ⟨by kernel_rfl, rfl⟩) hHeld ?_
                  try simp only [Act.put, List.getElem_toArray, List.getElem_cons_succ, List.getElem_cons_zero, List.setIfInBounds_toArray, List.set_cons_zero, List.set_cons_succ]
                  refine wpAnyH_take (i := 13) (v := undef) rfl (by kernel_rfl) (by kernel_rfl) (by kernel_rfl) (fun _ _ _ h => h) (Or.inr ⟨by kernel_rfl, rfl⟩) hHeld ?_
                  try simp only [Act.put, List.getElem_toArray, List.getElem_cons_succ, List.getElem_cons_zero, List.setIfInBounds_toArray, List.set_cons_zero, List.set_cons_succ]
                  refine wpAnyH_take (i := 14) (v := undef) rfl (by kernel_rfl) (by kernel_rfl) (by kernel_rfl) (fun _ _ _ h => h) (Or.inr ⟨by kernel_rfl, rfl⟩) hHeld ?_
                  try simp only [Act.put, List.getElem_toArray, List.getElem_cons_succ, List.getElem_cons_zero, List.setIfInBounds_toArray, List.set_cons_zero, List.set_cons_succ]
                  refine wpAnyH_take (i := 15) (v := undef) rfl (by kernel_rfl) (by kernel_rfl) (by kernel_rfl) (fun _ _ _ h => h) (Or.inr ⟨by kernel_rfl, rfl⟩) hHeld ?_
                  try simp only [Act.put, List.getElem_toArray, List.getElem_cons_succ, List.getElem_cons_zero, List.setIfInBounds_toArray, List.set_cons_zero, List.set_cons_succ]
                  refine wpAnyH_take (i := 16) (v := undef) rfl (by kernel_rfl) (by kernel_rfl) (by kernel_rfl) (fun _ _ _ h => h) (Or.inr ⟨by kernel_rfl, rfl⟩) hHeld ?_
                  try simp only [Act.put, List.getElem_toArray, List.getElem_cons_succ, List.getElem_cons_zero, List.setIfInBounds_toArray, List.set_cons_zero, List.set_cons_succ]
                  refine wpAnyH_take (i := 17) (v := undef) rfl (by kernel_rfl) (by kernel_rfl) (by kernel_rfl) (fun _ _ _ h => h) (Or.inr ⟨by kernel_rfl, rfl⟩) hHeld ?_
                  try simp only [Act.put, List.getElem_toArray, List.getElem_cons_succ, List.getElem_cons_zero, List.setIfInBounds_toArray, List.set_cons_zero, List.set_cons_succ]
                  refine wpAnyH_take (i := 18) (v := undef) rfl (by kernel_rfl) (by kernel_rfl) (by kernel_rfl) (fun _ _ _ h => h) (Or.inr ⟨by kernel_rfl, rfl⟩) hHeld ?_
                  try simp only [Act.put, List.getElem_toArray, List.getElem_cons_succ, List.getElem_cons_zero, List.setIfInBounds_toArray, List.set_cons_zero, List.set_cons_succ]
                  refine wpAnyH_take (i := 19) (v := undef) rfl (by kernel_rfl) (by kernel_rfl) (by kernel_rfl) (fun _ _ _ h => h) (Or.inr ⟨by kernel_rfl, rfl⟩) hHeld ?_
                  try simp only [Act.put, List.getElem_toArray, List.getElem_cons_succ, List.getElem_cons_zero, List.setIfInBounds_toArray, List.set_cons_zero, List.set_cons_succ]
                  refine wpAnyH_take (i := 20) (v := undef) rfl (by kernel_rfl) (by kernel_rfl) (by kernel_rfl) (fun _ _ _ h => h) (Or.inr ⟨by kernel_rfl, rfl⟩) hHeld ?_
                  try simp only [Act.put, List.getElem_toArray, List.getElem_cons_succ, List.getElem_cons_zero, List.setIfInBounds_toArray, List.set_cons_zero, List.set_cons_succ]
                  refine wpAnyH_take (i := 21) (v := undef) rfl (by kernel_rfl) (by kernel_rfl) (by kernel_rfl) (fun _ _ _ h => h) (Or.inr ⟨by kernel_rfl, rfl⟩) hHeld ?_
                  try simp only [Act.put, List.getElem_toArray, List.getElem_cons_succ, List.getElem_cons_zero, List.setIfInBounds_toArray, List.set_cons_zero, List.set_cons_succ]
                  refine wpAnyH_take (i := 22) (v := ?_) rfl (by kernel_rfl) (by kernel_rfl) (by kernel_rfl) (fun _ _ _ h => h) (Or.inl ⟨by kernel_rfl, ?_⟩) hHeld ?_
                  rotate_left
                  · intro w hSw
                    (try dsimp only at hSw)
                    go_split_ands
                    go_simp
                    (try with_reducible rfl)
                  try simp only [Act.put, List.getElem_toArray, List.getElem_cons_succ, List.getElem_cons_zero, List.setIfInBounds_toArray, List.set_cons_zero, List.set_cons_succ]
                  refine wpAnyH_done (by kernel_rfl) ?_ _
                  clear hHeld
                  clear wa1 t1 t2 d3
                  rw [← HA3.out] at hza
                  have HLz : Hid (L = zz) := Lib.hid (by rw [← HM.out]; exact Mt.mlf_no (fun h => q2 (by have := h.2.1; rwa [HA3.out] at this)))
                  have HF5 := Lib.hid (HF.out.step X_1.out)
                  clear HF X_1
                  go_wp2_with fail
                  go_loopw [9] (fun k wr => ∃ (k0 : Nat) (Bf : Nat → Nat), k = .int .i64 (k0 : Int) ∧ 3 ≤ k0 ∧ k0 ≤ 3 + zz ∧ Hid (BR w wr bb s.size Bf) ∧ Hid (Mt.BackIn (byt s) s.size W a f k0 Bf)) (fun k _ => zz + 1 - (intOf k).toNat)
                  case atStart => exact ⟨3, _, rfl, by omega, by omega, HF5, HR⟩
                  case round =>
                    clear HF5 HR
                    obtain ⟨k0, Bg, rfl, hk3, hkm, HF, HRI⟩ := hrel
                    by_cases hle : k0 ≤ zz
                    · have hak : a + k0 ≤ s.size := by omega
                      have HRM := Lib.hid (HRI.out.more hfl hw hlt hk3 (by rw [HLL.out, HLz.out]; exact hle))
                      have b0 := HRI.out.le
                      have b1 := HRI.out.back.le (a + k0) (by omega) hak
                      obtain ⟨X0, hX0⟩ : ∃ z, Bg a = z := ⟨_, rfl⟩
                      obtain ⟨X1, hX1⟩ : ∃ z, Bg (a + k0) = z := ⟨_, rfl⟩
                      obtain ⟨A1, hA1⟩ : ∃ z, a + k0 = z := ⟨_, rfl⟩
                      rw [hX0] at b0
                      rw [hX1] at b1
                      obtain ⟨c0, f0⟩ := HF.out.cv a (by omega)
                      obtain ⟨c1, f1⟩ := HF.out.cv (a + k0) (by omega)
                      have HUS : Hid (∀ i, i < s.size + 1 → Mt.upd Bg a X0 i = Bg i) := Lib.hid (fun i _ => by rw [← hX0]; exact upd_same Bg a i)
                      simp only [hX0] at c0
                      simp only [hX1] at c1
                      rw [hA1] at c1 f1
                      have d1 : (a : Int) + (k0 : Int) = (A1 : Int) := by omega
                      have e1 : A1 < N1 := by omega
                      have e0 : a < N1 := by omega
                      have t3 : (k0 : Int) ≤ (zz : Int) := by omega
                      rw [hX1, hX0] at HRM
                      have HS := Lib.hid (HF.out.set a (X1 + 1) (by omega))
                      have hX1c : ((X1 + 1 : Nat) : Int) = (X1 : Int) + 1 := by omega
                      rw [hX1c] at HS
                      have HXX := Lib.hid (And.intro hX0 (And.intro hX1 hA1))
                      clear hX0 hX1 hA1
                      by_cases hmin : X1 + 1 < X0
                      · have t4 : decide ((X1 : Int) + 1 < (X0 : Int)) = true := decide_eq_true (by omega)
                        rw [if_pos hmin] at HRM
                        obtain ⟨wa1, wa2⟩ : IntKind.i64.wrap (A1 : Int) = (A1 : Int) ∧ IntKind.i64.wrap ((X1 : Int) + 1) = (X1 : Int) + 1 := ⟨wrapi (by omega) (by omega), wrapi (by omega) (by omega)⟩
                        go_wp2_with fail
                        go_quiet (fail)
                        go_wp2_with fail
                        clear wa1 wa2 c0 c1 f0 f1 e0 e1 d1
                        go_roundw
                        case rel => exact ⟨k0 + 1, _, by go_num, by omega, by omega, Lib.hid (HS.out.drewN _), HRM⟩
                        case measure => simp [intOf]; omega
                      · have t4 : decide ((X1 : Int) + 1 < (X0 : Int)) = false := decide_eq_false (by omega)
                        rw [if_neg hmin] at HRM
                        obtain ⟨wa1, wa2⟩ : IntKind.i64.wrap (A1 : Int) = (A1 : Int) ∧ IntKind.i64.wrap ((X1 : Int) + 1) = (X1 : Int) + 1 := ⟨wrapi (by omega) (by omega), wrapi (by omega) (by omega)⟩
                        go_wp2_with fail
                        go_quiet (fail)
                        go_wp2_with fail
                        clear wa1 wa2 c0 c1 f0 f1 e0 e1 d1
                        go_roundw
                        case rel => exact ⟨k0 + 1, _, by go_num, by omega, by omega, Lib.hid ((HF.out.congr HUS.out).step (by repeat (first | exact Ext.refl _ | refine Ext.drewN ?_ _))), HRM⟩
                        case measure => simp [intOf]; omega
                    · have t3 : ¬ (k0 : Int) ≤ (zz : Int) := by omega
                      have HRN := Lib.hid (HRI.out.from hfl (by rw [HLL.out, HLz.out]; omega))
                      go_wp2_with fail
                      go_roundw
                      case rel => exact ⟨f + 1, Bg, by go_num, by omega, HF, HRN⟩
                      case measure => simp [intOf]; omega
              · have t1 : decide ((zz : Int) < 258) = false := decide_eq_false (by omega)
                go_wp2_with fail
                have X_0 := Lib.hid (Ext.refl wr)
                refine wp_region_held_drew (S := fun w' => True) (by kernel_rfl) trivial (fun hHeld => ?_)
                clear hHeld
                refine anyH_world (fun wz => Ext wr wz) (show Ext wr wr.drew from Below.drew (Ext.refl wr)) ?_
                rintro w1 h
                have X_1 := Lib.hid (X_0.out.trans h)
                clear h X_0
                have hHeld : True := trivial
                refine wpAnyH_take (i := 0) (v := ?_) rfl (by kernel_rfl) (by kernel_rfl) (by kernel_rfl) (fun _ _ _ h => h) (Or.inl ⟨by kernel_rfl, ?_⟩) hHeld ?_
                rotate_left
                · intro w hSw
                  (try dsimp only at hSw)
                  go_split_ands
                  go_simp
                  (try with_reducible rfl)
                try simp only [Act.put, List.getElem_toArray, List.getElem_cons_succ, List.getElem_cons_zero, List.setIfInBounds_toArray, List.set_cons_zero, List.set_cons_succ]
                refine wpAnyH_take (i := 1) (v := ?_) rfl (by kernel_rfl) (by kernel_rfl) (by kernel_rfl) (fun _ _ _ h => h) (Or.inl ⟨by kernel_rfl, ?_⟩) hHeld ?_
                rotate_left
                · intro w hSw
                  (try dsimp only at hSw)
                  go_split_ands
                  go_simp
                  (try with_reducible rfl)
                try simp only [Act.put, List.getElem_toArray, List.getElem_cons_succ, List.getElem_cons_zero, List.setIfInBounds_toArray, List.set_cons_zero, List.set_cons_succ]
                refine wpAnyH_take (i := 2) (v := ?_) rfl (by kernel_rfl) (by kernel_rfl) (by kernel_rfl) (fun _ _ _ h => h) (Or.inl ⟨by kernel_rfl, ?_⟩) hHeld ?_
                rotate_left
                · intro w hSw
                  (try dsimp only at hSw)
                  go_split_ands
                  go_simp
                  (try with_reducible rfl)
                try simp only [Act.put, List.getElem_toArray, List.getElem_cons_succ, List.getElem_cons_zero, List.setIfInBounds_toArray, List.set_cons_zero, List.set_cons_succ]
                refine wpAnyH_take (i := 3) (v := undef) rfl (by kernel_rfl) (by kernel_rfl) (by kernel_rfl) (fun _ _ _ h => h) (Or.inr ⟨by kernel_rfl, rfl⟩) hHeld ?_
                try simp only [Act.put, List.getElem_toArray, List.getElem_cons_succ, List.getElem_cons_zero, List.setIfInBounds_toArray, List.set_cons_zero, List.set_cons_succ]
                refine wpAnyH_take (i := 4) (v := undef) rfl (by kernel_rfl) (by kernel_rfl) (by kernel_rfl) (fun _ _ _ h => h) (Or.inr ⟨by kernel_rfl, rfl⟩) hHeld ?_
                try simp only [Act.put, List.getElem_toArray, List.getElem_cons_succ, List.getElem_cons_zero, List.setIfInBounds_toArray, List.set_cons_zero, List.set_cons_succ]
                refine wpAnyH_take (i := 5) (v := undef) rfl (by kernel_rfl) (by kernel_rfl) (by kernel_rfl) (fun _ _ _ h => h) (Or.inr ⟨by kernel_rfl, rfl⟩) hHeld ?_
                try simp only [Act.put, List.getElem_toArray, List.getElem_cons_succ, List.getElem_cons_zero, List.setIfInBounds_toArray, List.set_cons_zero, List.set_cons_succ]
                refine wpAnyH_take (i := 6) (v := undef) rfl (by kernel_rfl) (by kernel_rfl) (by kernel_rfl) (fun _ _ _ h => h) (Or.inr ⟨by kernel_rfl, rfl⟩) hHeld ?_
                try simp only [Act.put, List.getElem_toArray, List.getElem_cons_succ, List.getElem_cons_zero, List.setIfInBounds_toArray, List.set_cons_zero, List.set_cons_succ]
                refine wpAnyH_take (i := 7) (v := undef) rfl (by kernel_rfl) (by kernel_rfl) (by kernel_rfl) (fun _ _ _ h => h) (Or.inr ⟨by kernel_rfl, rfl⟩) hHeld ?_
                try simp only [Act.put, List.getElem_toArray, List.getElem_cons_succ, List.getElem_cons_zero, List.setIfInBounds_toArray, List.set_cons_zero, List.set_cons_succ]
                refine wpAnyH_take (i := 8) (v := undef) rfl (by kernel_rfl) (by kernel_rfl) (by kernel_rfl) (fun _ _ _ h => h) (Or.inr ⟨by kernel_rfl, rfl⟩) hHeld ?_
                try simp only [Act.put, List.getElem_toArray, List.getElem_cons_succ, List.getElem_cons_zero, List.setIfInBounds_toArray, List.set_cons_zero, List.set_cons_succ]
                refine wpAnyH_take (i := 9) (v := ?_) rfl (by kernel_rfl) (by kernel_rfl) (by kernel_rfl) (fun _ _ _ h => h) (Or.inl ⟨by kernel_rfl, ?_⟩) hHeld ?_
                rotate_left
                · intro w hSw
                  (try dsimp only at hSw)
                  go_split_ands
                  go_simp
                  (try with_reducible rfl)
                try simp only [Act.put, List.getElem_toArray, List.getElem_cons_succ, List.getElem_cons_zero, List.setIfInBounds_toArray, List.set_cons_zero, List.set_cons_succ]
                refine wpAnyH_take (i := 10) (v := ?_) rfl (by kernel_rfl) (by kernel_rfl) (by kernel_rfl) (fun _ _ _ h => h) (Or.inl ⟨by kernel_rfl, ?_⟩) hHeld ?_
                rotate_left
                · intro w hSw
                  (try dsimp only at hSw)
                  go_split_ands
                  go_simp
                  (try with_reducible rfl)
                try simp only [Act.put, List.getElem_toArray, List.getElem_cons_succ, List.getElem_cons_zero, List.setIfInBounds_toArray, List.set_cons_zero, List.set_cons_succ]
                refine wpAnyH_take (i := 11) (v := undef) rfl (by kernel_rfl) (by kernel_rfl) (by kernel_rfl) (fun _ _ _ h => h) (Or.inr ⟨by kernel_rfl, rfl⟩) hHeld ?_
                try simp only [Act.put, List.getElem_toArray, List.getElem_cons_succ, List.getElem_cons_zero, List.setIfInBounds_toArray, List.set_cons_zero, List.set_cons_succ]
                refine wpAnyH_take (i := 12) (v := undef) rfl (by kernel_rfl) (by kernel_rfl) (by kernel_rfl) (fun _ _ _ h => h) (Or.inr ⟨by kernel_rfl, rfl⟩) hHeld ?_
                try simp only [Act.put, List.getElem_toArray, List.getElem_cons_succ, List.getElem_cons_zero, List.setIfInBounds_toArray, List.set_cons_zero, List.set_cons_succ]
                refine wpAnyH_take (i := 13) (v := undef) rfl (by kernel_rfl) (by kernel_rfl) (by kernel_rfl) (fun _ _ _ h => h) (Or.inr ⟨by kernel_rfl, rfl⟩) hHeld ?_
                try simp only [Act.put, List.getElem_toArray, List.getElem_cons_succ, List.getElem_cons_zero, List.setIfInBounds_toArray, List.set_cons_zero, List.set_cons_succ]
                refine wpAnyH_take (i := 14) (v := undef) rfl (by kernel_rfl) (by kernel_rfl) (by kernel_rfl) (fun _ _ _ h => h) (Or.inr ⟨by kernel_rfl, rfl⟩) hHeld ?_
                try simp only [Act.put, List.getElem_toArray, List.getElem_cons_succ, List.getElem_cons_zero, List.setIfInBounds_toArray, List.set_cons_zero, List.set_cons_succ]
                refine wpAnyH_take (i := 15) (v := undef) rfl (by kernel_rfl) (by kernel_rfl) (by kernel_rfl) (fun _ _ _ h => h) (Or.inr ⟨by kernel_rfl, rfl⟩) hHeld ?_
                try simp only [Act.put, List.getElem_toArray, List.getElem_cons_succ, List.getElem_cons_zero, List.setIfInBounds_toArray, List.set_cons_zero, List.set_cons_succ]
                refine wpAnyH_take (i := 16) (v := undef) rfl (by kernel_rfl) (by kernel_rfl) (by kernel_rfl) (fun _ _ _ h => h) (Or.inr ⟨by kernel_rfl, rfl⟩) hHeld ?_
                try simp only [Act.put, List.getElem_toArray, List.getElem_cons_succ, List.getElem_cons_zero, List.setIfInBounds_toArray, List.set_cons_zero, List.set_cons_succ]
                refine wpAnyH_take (i := 17) (v := undef) rfl (by kernel_rfl) (by kernel_rfl) (by kernel_rfl) (fun _ _ _ h => h) (Or.inr ⟨by kernel_rfl, rfl⟩) hHeld ?_
                try simp only [Act.put, List.getElem_toArray, List.getElem_cons_succ, List.getElem_cons_zero, List.setIfInBounds_toArray, List.set_cons_zero, List.set_cons_succ]
                refine wpAnyH_take (i := 18) (v := undef) rfl (by kernel_rfl) (by kernel_rfl) (by kernel_rfl) (fun _ _ _ h => h) (Or.inr ⟨by kernel_rfl, rfl⟩) hHeld ?_
                try simp only [Act.put, List.getElem_toArray, List.getElem_cons_succ, List.getElem_cons_zero, List.setIfInBounds_toArray, List.set_cons_zero, List.set_cons_succ]
                refine wpAnyH_take (i := 19) (v := undef) rfl (by kernel_rfl) (by kernel_rfl) (by kernel_rfl) (fun _ _ _ h => h) (Or.inr ⟨by kernel_rfl, rfl⟩) hHeld ?_
                try simp only [Act.put, List.getElem_toArray, List.getElem_cons_succ, List.getElem_cons_zero, List.setIfInBounds_toArray, List.set_cons_zero, List.set_cons_succ]
                refine wpAnyH_take (i := 20) (v := undef) rfl (by kernel_rfl) (by kernel_rfl) (by kernel_rfl) (fun _ _ _ h => h) (Or.inr ⟨by kernel_rfl, rfl⟩) hHeld ?_
                try simp only [Act.put, List.getElem_toArray, List.getElem_cons_succ, List.getElem_cons_zero, List.setIfInBounds_toArray, List.set_cons_zero, List.set_cons_succ]
                refine wpAnyH_take (i := 21) (v := undef) rfl (by kernel_rfl) (by kernel_rfl) (by kernel_rfl) (fun _ _ _ h => h) (Or.inr ⟨by kernel_rfl, rfl⟩) hHeld ?_
                try simp only [Act.put, List.getElem_toArray, List.getElem_cons_succ, List.getElem_cons_zero, List.setIfInBounds_toArray, List.set_cons_zero, List.set_cons_succ]
                refine wpAnyH_take (i := 22) (v := ?_) rfl (by kernel_rfl) (by kernel_rfl) (by kernel_rfl) (fun _ _ _ h => h) (Or.inl ⟨by kernel_rfl, ?_⟩) hHeld ?_
                rotate_left
                · intro w hSw
                  (try dsimp only at hSw)
                  go_split_ands
                  go_simp
                  (try with_reducible rfl)
                try simp only [Act.put, List.getElem_toArray, List.getElem_cons_succ, List.getElem_cons_zero, List.setIfInBounds_toArray, List.set_cons_zero, List.set_cons_succ]
                refine wpAnyH_done (by kernel_rfl) ?_ _
                clear hHeld
                clear t1
                have HLz : Hid (L = zz) := Lib.hid (by rw [← HM.out]; exact Mt.mlf_no (fun h => q1 h.1))
                have HF5 := Lib.hid (HF.out.step X_1.out)
                clear HF X_1
                go_wp2_with fail
                go_loopw [9] (fun k wr => ∃ (k0 : Nat) (Bf : Nat → Nat), k = .int .i64 (k0 : Int) ∧ 3 ≤ k0 ∧ k0 ≤ 3 + zz ∧ Hid (BR w wr bb s.size Bf) ∧ Hid (Mt.BackIn (byt s) s.size W a f k0 Bf)) (fun k _ => zz + 1 - (intOf k).toNat)
                case atStart => exact ⟨3, _, rfl, by omega, by omega, HF5, HR⟩
                case round =>
                  clear HF5 HR
                  obtain ⟨k0, Bg, rfl, hk3, hkm, HF, HRI⟩ := hrel
                  by_cases hle : k0 ≤ zz
                  · have hak : a + k0 ≤ s.size := by omega
                    have HRM := Lib.hid (HRI.out.more hfl hw hlt hk3 (by rw [HLL.out, HLz.out]; exact hle))
                    have b0 := HRI.out.le
                    have b1 := HRI.out.back.le (a + k0) (by omega) hak
                    obtain ⟨X0, hX0⟩ : ∃ z, Bg a = z := ⟨_, rfl⟩
                    obtain ⟨X1, hX1⟩ : ∃ z, Bg (a + k0) = z := ⟨_, rfl⟩
                    obtain ⟨A1, hA1⟩ : ∃ z, a + k0 = z := ⟨_, rfl⟩
                    rw [hX0] at b0
                    rw [hX1] at b1
                    obtain ⟨c0, f0⟩ := HF.out.cv a (by omega)
                    obtain ⟨c1, f1⟩ := HF.out.cv (a + k0) (by omega)
                    have HUS : Hid (∀ i, i < s.size + 1 → Mt.upd Bg a X0 i = Bg i) := Lib.hid (fun i _ => by rw [← hX0]; exact upd_same Bg a i)
                    simp only [hX0] at c0
                    simp only [hX1] at c1
                    rw [hA1] at c1 f1
                    have d1 : (a : Int) + (k0 : Int) = (A1 : Int) := by omega
                    have e1 : A1 < N1 := by omega
                    have e0 : a < N1 := by omega
                    have t3 : (k0 : Int) ≤ (zz : Int) := by omega
                    rw [hX1, hX0] at HRM
                    have HS := Lib.hid (HF.out.set a (X1 + 1) (by omega))
                    have hX1c : ((X1 + 1 : Nat) : Int) = (X1 : Int) + 1 := by omega
                    rw [hX1c] at HS
                    have HXX := Lib.hid (And.intro hX0 (And.intro hX1 hA1))
                    clear hX0 hX1 hA1
                    by_cases hmin : X1 + 1 < X0
                    · have t4 : decide ((X1 : Int) + 1 < (X0 : Int)) = true := decide_eq_true (by omega)
                      rw [if_pos hmin] at HRM
                      obtain ⟨wa1, wa2⟩ : IntKind.i64.wrap (A1 : Int) = (A1 : Int) ∧ IntKind.i64.wrap ((X1 : Int) + 1) = (X1 : Int) + 1 := ⟨wrapi (by omega) (by omega), wrapi (by omega) (by omega)⟩
                      go_wp2_with fail
                      go_quiet (fail)
                      go_wp2_with fail
                      clear wa1 wa2 c0 c1 f0 f1 e0 e1 d1
                      go_roundw
                      case rel => exact ⟨k0 + 1, _, by go_num, by omega, by omega, Lib.hid (HS.out.drewN _), HRM⟩
                      case measure => simp [intOf]; omega
                    · have t4 : decide ((X1 : Int) + 1 < (X0 : Int)) = false := decide_eq_false (by omega)
                      rw [if_neg hmin] at HRM
                      obtain ⟨wa1, wa2⟩ : IntKind.i64.wrap (A1 : Int) = (A1 : Int) ∧ IntKind.i64.wrap ((X1 : Int) + 1) = (X1 : Int) + 1 := ⟨wrapi (by omega) (by omega), wrapi (by omega) (by omega)⟩
                      go_wp2_with fail
                      go_quiet (fail)
                      go_wp2_with fail
                      clear wa1 wa2 c0 c1 f0 f1 e0 e1 d1
                      go_roundw
                      case rel => exact ⟨k0 + 1, _, by go_num, by omega, by omega, Lib.hid ((HF.out.congr HUS.out).step (by repeat (first | exact Ext.refl _ | refine Ext.drewN ?_ _))), HRM⟩
                      case measure => simp [intOf]; omega
                  · have t3 : ¬ (k0 : Int) ≤ (zz : Int) := by omega
                    have HRN := Lib.hid (HRI.out.from hfl (by rw [HLL.out, HLz.out]; omega))
                    go_wp2_with fail
                    go_roundw
                    case rel => exact ⟨f + 1, Bg, by go_num, by omega, HF, HRN⟩
                    case measure => simp [intOf]; omega
          · have t2 : (W : Int) < (a : Int) - (f : Int) := by omega
            have HRN := Lib.hid (HR.out.skip (by omega))
            go_wp2_with fail
            go_roundw
            case rel => exact ⟨f + 1, Bf, by go_num, by omega, HF, HRN⟩
            case measure => simp [intOf]; omega
        · obtain rfl : f = a := by omega
          have HRN := Lib.hid (HR.out.next hlt)
          go_wp2_with fail
          go_roundw
          case rel => exact ⟨f, Bf, rfl, by omega, HF, HRN⟩
          case measure => simp [intOf] <;> omega
end Go.Proofs.YtdeiolagnheihaaDoor
