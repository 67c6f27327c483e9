/- chunk.Read. -/
import Derived.Test.YtkfjcgcgfdibaaaDoorChkW
import Derived.Test.YtkfjcgcgfdibaaaDoorChkP
namespace Go.Proofs.YtkfjcgcgfdibaaaDoor
open Go.RowKit
set_option maxRecDepth 100000
theorem hasPrefix_any (s p : ByteArray) (w : World) (hs : s.size ≤ 9223372036854775807) (hp : p.size ≤ 9223372036854775807) : Calls Tryd.prog 86 #[.string s, .string p] w fun e w' => e = .returned (.bool (decide (s.data.toList.take p.size = p.data.toList))) ∧ w = w' := by
  have key : Calls Tryd.prog 107 #[.string s, .string p] w fun e w' => e = .returned (.bool (decide (s.data.toList.take p.size = p.data.toList))) ∧ w = w' := by
    by_cases h : p.size ≤ s.size
    · have t0 : decide ((p.size : Int) ≤ (s.size : Int)) = true := decide_eq_true (by omega)
      have h2 : p.size ≤ s.size := h
      go_enter Tryd.func107, Tryd.ntmps107
      go_wp2_with fail
      go_ret
      refine ⟨ret_bool ?_, rfl⟩
      have e1 : (s.extract 0 p.size).data.toList = s.data.toList.take p.size := by rw [ByteArray.data_extract, Array.toList_extract]; simp
      rw [Bool.eq_iff_iff, beq_iff_eq, decide_eq_true_iff, ← e1, ByteArray.toList_eq, ByteArray.toList_eq]
    · have t0 : decide ((p.size : Int) ≤ (s.size : Int)) = false := decide_eq_false (by omega)
      go_enter Tryd.func107, Tryd.ntmps107
      go_wp2_with fail
      go_ret
      refine ⟨ret_bool ?_, rfl⟩
      rw [eq_comm, decide_eq_false_iff_not]
      intro q
      have := congrArg List.length q
      rw [List.length_take] at this
      have e1 : s.data.toList.length = s.size := rfl
      have e2 : p.data.toList.length = p.size := rfl
      omega
  go_enter Tryd.func86, Tryd.ntmps86
  go_wp2_with fail
  refine key.mono ?_
  rintro e w1 ⟨rfl, rfl⟩
  go_wp2_with fail
  go_ret
  exact ⟨rfl, rfl⟩
theorem fail_any (k : Int) (T : TypeId) (u : Value) (w : World) : Calls Tryd.prog 85 #[.int .i64 k, .iface T u] w fun e w' => e = .returned (.tuple #[.slice none 0 0, .iface 111 (.pointer (some ⟨w.heap.size, 0, none⟩))]) ∧ w' = w.alloc (.cells #[.int .i64 k, .iface T u] 113) := by
  go_enter Tryd.func85, Tryd.ntmps85
  go_wp2_with fail
  go_ret2
  exact ⟨rfl, rfl⟩
def RPost (w w' : World) (E : Nat → Addr) (r : PRes) (e : Ending) : Prop :=
  Ext w w' ∧ ((∃ L x c, r = .ok L ∧ e = .returned (.tuple #[.slice x L.length c, .nilIface]) ∧ Cks w' x L) ∨ (∃ c i F : Nat, c < 9 ∧ (i : Int) ≤ 9223372036854775807 ∧ r = .bad c i ∧ e = .returned (.tuple #[.slice none 0 0, .iface 111 (.pointer (some ⟨F, 0, none⟩))]) ∧ w'.heap[F]? = some (.cells #[.int .i64 (i : Int), sentV (E c)] 113 (0, 0))))
theorem read_err {w wz : World} {E : Nat → Addr} {k c : Nat} {r : PRes} (hX : Ext w wz) (hc : c < 9) (hk : (k : Int) ≤ 9223372036854775807) (h : r = .bad c k) :
    RPost w (wz.alloc (.cells #[.int .i64 (k : Int), .iface 171 (.pointer (some (E c)))] 113)) E r (.returned (.tuple #[.slice none 0 0, .iface 111 (.pointer (some ⟨wz.heap.size, 0, none⟩))])) :=
  ⟨hX.alloc _, .inr ⟨c, k, wz.heap.size, hc, hk, h, rfl, heap_alloc_new wz _⟩⟩
theorem read_fin {w wz : World} {E : Nat → Addr} {r : PRes} {x : Option Addr} {c : Nat} {L : List Ck} (hX : Ext w wz) (hL : Cks wz x L) (h : r = .ok L) : RPost w wz E r (.returned (.tuple #[.slice x L.length c, .nilIface])) := ⟨hX, .inl ⟨L, x, c, h, rfl, hL⟩⟩
theorem ckinf : (Tryd.prog.info? 110).map (fun i => (i.zero, i.size, i.bytes)) = some (some (.agg #[.string ⟨#[]⟩, .string ⟨#[]⟩]), 2, 32) := by kernel_rfl
theorem two_new (w : World) (T : TypeId) (k d : ByteArray) : ∀ (j : Nat) (u : Value), [Value.string k, Value.string d][j]? = some u → (w.alloc (.cells #[.string k, .string d] T)).cell? ((⟨w.heap.size, 0, none⟩ : Addr).add j) = some u := by
  intro j u hj
  rw [add_plain]
  match j, hj with
  | 0, hj => simp at hj; subst hj; simp
  | 1, hj => simp at hj; subst hj; simp
theorem two_one (k d : ByteArray) : ∀ u ∈ [Value.string k, Value.string d], u.oneCell' = true := by
  intro u hu; simp at hu; rcases hu with rfl | rfl <;> rfl
theorem ck_push {w0 wr w1 : World} {v v' : Value} {L : List Ck} {k d : ByteArray} {T : TypeId} (hE : Ext w0 wr) (hR : wr.ownsRow w0.heap.size T 2 v L.length (ckL L)) (hg : wr.grownBy w1 v.ownBlock)
    (ho : w1.ownsRow w0.heap.size T 2 v' (L.length + 1) (ckL L ++ [.string k, .string d])) : w1.ownsRow w0.heap.size T 2 v' (L ++ [(⟨k, d⟩ : Ck)]).length (ckL (L ++ [(⟨k, d⟩ : Ck)])) ∧ Ext w0 w1 := by
  refine ⟨?_, Below.trans hE ((Keeps.grown hg).below hE.size (fun k hk e => by have := (hR.lt k e).1; omega))⟩
  rw [ckL_snoc, List.length_append]
  exact ho
theorem own_lit {w : World} {base : Nat} {e : TypeId} {size : Nat} {v : Value} {n : Nat} {xs : List Value} (h : w.ownsRow base e size v n xs) : ∃ x c, v = .slice x n c := by
  rcases ownsRow_slice h with ⟨rfl, rfl⟩ | ⟨g, cap, rfl⟩
  · exact ⟨none, 0, rfl⟩
  · exact ⟨_, cap, rfl⟩
def Rw (w0 w : World) (v : Value) (n : Nat) (L : List Ck) : Prop := w.ownsRow w0.heap.size 110 2 v n (ckL L)
theorem Rw.ext {w0 w w' : World} {v : Value} {n : Nat} {L : List Ck} (h : Rw w0 w v n L) (hE : Ext w w') : Rw w0 w' v n L := ownsRow_kept (S := fun _ => False) h hE.keeps (fun _ _ => id)
theorem ex_size {s : ByteArray} {p : Nat} (h : p ≤ s.size) : p + (s.extract p s.size).size = s.size := by rw [ByteArray.size_extract]; omega
set_option linter.unusedSimpArgs false in
set_option maxHeartbeats 4000000 in
theorem read_any (s : ByteArray) (w : World) (E : Nat → Addr) (hE : ErrC w E) (hs : s.size ≤ 300000) :
    Calls Tryd.prog 50 #[.string s] w fun e w' => RPost w w' E (readL s) e := by
  have HE := Lib.hid hE
  clear hE
  obtain ⟨i0, hi0, hz0, hz1, hz2⟩ := info_parts ckinf
  have tm : decide ((300000 : Int) < (s.size : Int)) = false := decide_eq_false (by omega)
  have HPX := Lib.hid (fun w => hasPrefix_any s ⟨sigB.toArray⟩ w (by omega) (by decide))
  by_cases qp : s.data.toList.take 8 = sigB
  · have qd : decide (s.data.toList.take (⟨sigB.toArray⟩ : ByteArray).size = (⟨sigB.toArray⟩ : ByteArray).data.toList) = true := decide_eq_true qp
    obtain ⟨R, hR⟩ : ∃ R, readL s = R := ⟨_, rfl⟩
    have hP0 : parse s (s.size + 1) 8 [] = R := by rw [← hR]; unfold readL; rw [if_pos qp]
    rw [hR]
    have HP0 := Lib.hid hP0
    clear hP0 hR
    have h8 : 8 ≤ s.size := by
        have := congrArg List.length qp
        rw [List.length_take] at this
        have e1 : s.data.toList.length = s.size := rfl
        have e2 : sigB.length = 8 := rfl
        omega
    clear qp
    go_enter Tryd.func50, Tryd.ntmps50
    go_wp2_with fail
    refine (HPX.out _).mono ?_
    rintro e w9 ⟨rfl, rfl⟩
    rw [qd]
    clear qd
    go_wp2_with fail
    go_loopw [5, 6] (fun v q wr => ∃ (pos f : Nat) (acc : List Ck), q = .int .i64 pos ∧ pos ≤ s.size ∧ acc.length ≤ pos ∧ Hid (s.size - pos < f) ∧ Hid (parse s f pos acc = R) ∧ Hid (wr.ownsRow w.heap.size 110 2 v (acc).length (ckL (acc))) ∧ Hid (Ext w wr)) (fun _ q _ => s.size - (intOf q).toNat)
    case atStart => exact ⟨8, s.size + 1, [], rfl, h8, by simp, Lib.hid (by omega), HP0, Lib.hid (World.ownsRow_nil _ _ _ _), Lib.hid (Ext.refl _)⟩
    case round =>
      clear HP0
      obtain ⟨pos, f, acc, rfl, hpos, hacc, HF, HP, HR, HW⟩ := hrel
      by_cases hlt : pos < s.size
      · obtain ⟨vx, vc, rfl⟩ := own_lit HR.out
        obtain ⟨al, hal⟩ : ∃ al, acc.length = al := ⟨_, rfl⟩
        rw [hal] at HR hacc
        have HAL := Lib.hid hal
        rw [hal]
        clear hal
        have hTs := ex_size hpos
        obtain ⟨T, hT⟩ : ∃ T, s.extract pos s.size = T := ⟨_, rfl⟩
        rw [hT] at hTs
        have HTS := Lib.hid hTs
        have HTT := Lib.hid hT
        have hTb : T.size ≤ 300000 := by omega
        clear hTs
        have HBad := Lib.hid (fun c (h : pstep T = .bad c) => HP.out.symm.trans (parse_bad hlt HF.out hT h))
        have HNx := Lib.hid (fun n c (h : pstep T = .next n c) => parse_next (acc := acc) hlt HF.out hT h)
        by_cases q12 : T.size < 12
        · have t1 : decide ((T.size : Int) < 12) = true := decide_eq_true (by omega)
          have HB := Lib.hid (HBad.out 0 (pstep_short q12))
          clear HBad HNx HP HF
          have hv := (HE.out.ext HW.out).var 0 (by decide)
          simp only [gk, sentV] at hv
          go_wp2_with fail
          refine (fail_any _ _ _ _).mono ?_
          rintro e w9 ⟨rfl, rfl⟩
          go_wp2_with fail
          go_ret2
          exact read_err (k := pos) HW.out (by decide) (by omega) HB.out
        · have t1 : decide ((T.size : Int) < 12) = false := decide_eq_false (by omega)
          obtain ⟨T4, h4⟩ : ∃ b, T.extract 0 4 = b := ⟨_, rfl⟩
          obtain ⟨n, hn⟩ : ∃ n, valN T4.data.toList = n := ⟨_, rfl⟩
          have hnl : n < 4294967296 := by rw [← hn]; exact valN_lt _
          have hva := fun w => value_any T4 w (by rw [← h4, ByteArray.size_extract]; unfold maxLen; omega)
          rw [hn] at hva
          have HVA := Lib.hid hva
          clear hva
          have H4 := Lib.hid h4
          have HN := Lib.hid hn
          clear hn
          have hw64 : IntKind.i64.wrap (n : Int) = (n : Int) := by unfold IntKind.wrap; simp [IntKind.bits, IntKind.signed]; omega
          by_cases qn : T.size - 12 < n
          · have t2 : decide ((T.size : Int) - 12 < (n : Int)) = true := decide_eq_true (by omega)
            have HB := Lib.hid (HBad.out 0 (pstep_over q12 H4.out HN.out qn))
            clear HBad HNx HP HF
            go_wp2_with fail
            refine (HVA.out _).mono ?_
            rintro e w9 ⟨rfl, rfl⟩
            have hv := (HE.out.ext HW.out).var 0 (by decide)
            simp only [gk, sentV] at hv
            go_wp2_with fail
            refine (fail_any _ _ _ _).mono ?_
            rintro e w9 ⟨rfl, rfl⟩
            go_wp2_with fail
            go_ret2
            exact read_err (k := pos) HW.out (by decide) (by omega) HB.out
          · have t2 : decide ((T.size : Int) - 12 < (n : Int)) = false := decide_eq_false (by omega)
            obtain ⟨K, hK⟩ : ∃ b, T.extract 4 8 = b := ⟨_, rfl⟩
            have HIK := Lib.hid (fun w => isKind_any K w (by rw [← hK, ByteArray.size_extract]; unfold maxLen; omega))
            have HK := Lib.hid hK
            by_cases qk : kindB K.data.toList = true
            · have QK := Lib.hid qk
              clear qk
              obtain ⟨B, hB⟩ : ∃ b, T.extract (8 + n) (12 + n) = b := ⟨_, rfl⟩
              obtain ⟨A, hA⟩ : ∃ b, T.extract 4 (8 + n) = b := ⟨_, rfl⟩
              obtain ⟨D, hD⟩ : ∃ b, T.extract 8 (8 + n) = b := ⟨_, rfl⟩
              obtain ⟨u, hu⟩ : ∃ u, valN B.data.toList = u := ⟨_, rfl⟩
              obtain ⟨v, hv⟩ : ∃ v, Crc.crc A.data.toList = v := ⟨_, rfl⟩
              have hvb := fun w => value_any B w (by rw [← hB, ByteArray.size_extract]; unfold maxLen; omega)
              rw [hu] at hvb
              have HVB := Lib.hid hvb
              have hcr := fun w => crc_any A w (by rw [← hA, ByteArray.size_extract]; unfold maxLen; omega)
              rw [hv] at hcr
              have HCR := Lib.hid hcr
              have HBB := Lib.hid hB
              have HA := Lib.hid hA
              have HD := Lib.hid hD
              have HU := Lib.hid hu
              have HV := Lib.hid hv
              clear hvb hcr hu hv
              have b1 : (8 : Int) + (n : Int) ≤ (12 : Int) + (n : Int) := by omega
              have b2 : (12 : Int) + (n : Int) ≤ (T.size : Int) := by omega
              have b3 : (8 : Int) + (n : Int) ≤ (T.size : Int) := by omega
              have b4 : (4 : Int) ≤ (8 : Int) + (n : Int) := by omega
              have b8 : (8 : Int) ≤ (T.size : Int) := by omega
              have b6 : (0 : Int) ≤ (12 : Int) + (n : Int) := by omega
              have b7 : (0 : Int) ≤ (8 : Int) + (n : Int) := by omega
              have b5 : (8 : Int) ≤ (8 : Int) + (n : Int) := by omega
              have n1 : ((8 : Int) + (n : Int)).toNat = 8 + n := by omega
              have n2 : ((12 : Int) + (n : Int)).toNat = 12 + n := by omega
              have w8 : IntKind.i64.wrap ((8 : Int) + (n : Int)) = (8 : Int) + (n : Int) := by unfold IntKind.wrap; simp [IntKind.bits, IntKind.signed]; omega
              have w12 : IntKind.i64.wrap ((12 : Int) + (n : Int)) = (12 : Int) + (n : Int) := by unfold IntKind.wrap; simp [IntKind.bits, IntKind.signed]; omega
              go_wp2_with fail
              refine (HVA.out _).mono ?_
              rintro e w9 ⟨rfl, rfl⟩
              go_wp2_with fail
              refine (HIK.out _).mono ?_
              rintro e w9 ⟨rfl, rfl⟩
              rw [QK.out]
              go_wp2_with fail
              have X_0 := HW
              have R_0 : Hid (Rw w wr (.slice vx al vc) al acc) := HR
              clear HW HR
              refine wp_region_held_drew (S := fun w' => True) (by kernel_rfl) trivial (fun hHeld => ?_)
              clear hHeld
              refine anyHw (fun wz => Ext wr wz) (show Ext wr wr.drew from Below.drew (Ext.refl wr)) ?_
              rintro w1 h
              have X_1 := Lib.hid (X_0.out.trans h)
              have R_1 := Lib.hid (R_0.out.ext h)
              clear h X_0 R_0
              have hHeld : True := trivial
              refine wpAnyH_take (i := 0) (v := ?_) rfl (by kernel_rfl) (by kernel_rfl) (by kernel_rfl) (fun _ _ _ h => h) (Or.inl ⟨by kernel_rfl, ?_⟩) hHeld ?_
              rotate_left
              · intro w hSw
                (try dsimp only at hSw)
                go_split_ands
                go_simp
                (try with_reducible rfl)
              try simp only [Act.put, List.getElem_toArray, List.getElem_cons_succ, List.getElem_cons_zero, List.setIfInBounds_toArray, List.set_cons_zero, List.set_cons_succ]
              refine wpAnyH_take (i := 1) (v := ?_) rfl (by kernel_rfl) (by kernel_rfl) (by kernel_rfl) (fun _ _ _ h => h) (Or.inl ⟨by kernel_rfl, ?_⟩) hHeld ?_
              rotate_left
              · intro w hSw
                (try dsimp only at hSw)
                go_split_ands
                go_simp
                (try with_reducible rfl)
              try simp only [Act.put, List.getElem_toArray, List.getElem_cons_succ, List.getElem_cons_zero, List.setIfInBounds_toArray, List.set_cons_zero, List.set_cons_succ]
              refine wpAnyH_take (i := 2) (v := ?_) rfl (by kernel_rfl) (by kernel_rfl) (by kernel_rfl) (fun _ _ _ h => h) (Or.inl ⟨by kernel_rfl, ?_⟩) hHeld ?_
              rotate_left
              · intro w hSw
                (try dsimp only at hSw)
                go_split_ands
                go_simp
                (try with_reducible rfl)
              try simp only [Act.put, List.getElem_toArray, List.getElem_cons_succ, List.getElem_cons_zero, List.setIfInBounds_toArray, List.set_cons_zero, List.set_cons_succ]
              refine wpAnyH_take (i := 3) (v := ?_) rfl (by kernel_rfl) (by kernel_rfl) (by kernel_rfl) (fun _ _ _ h => h) (Or.inl ⟨by kernel_rfl, ?_⟩) hHeld ?_
              rotate_left
              · intro w hSw
                (try dsimp only at hSw)
                go_split_ands
                go_simp
                (try with_reducible rfl)
              try simp only [Act.put, List.getElem_toArray, List.getElem_cons_succ, List.getElem_cons_zero, List.setIfInBounds_toArray, List.set_cons_zero, List.set_cons_succ]
              refine wpAnyH_take (i := 4) (v := ?_) rfl (by kernel_rfl) (by kernel_rfl) (by kernel_rfl) (fun _ _ _ h => h) (Or.inl ⟨by kernel_rfl, ?_⟩) hHeld ?_
              rotate_left
              · intro w hSw
                (try dsimp only at hSw)
                go_split_ands
                go_simp
                (try with_reducible rfl)
              try simp only [Act.put, List.getElem_toArray, List.getElem_cons_succ, List.getElem_cons_zero, List.setIfInBounds_toArray, List.set_cons_zero, List.set_cons_succ]
              refine wpAnyH_take (i := 5) (v := ?_) rfl (by kernel_rfl) (by kernel_rfl) (by kernel_rfl) (fun _ _ _ h => h) (Or.inl ⟨by kernel_rfl, ?_⟩) hHeld ?_
              rotate_left
              · intro w hSw
                (try dsimp only at hSw)
                go_split_ands
                go_simp
                (try with_reducible rfl)
              try simp only [Act.put, List.getElem_toArray, List.getElem_cons_succ, List.getElem_cons_zero, List.setIfInBounds_toArray, List.set_cons_zero, List.set_cons_succ]
              refine wpAnyH_take (i := 7) (v := ?_) rfl (by kernel_rfl) (by kernel_rfl) (by kernel_rfl) (fun _ _ _ h => h) (Or.inl ⟨by kernel_rfl, ?_⟩) hHeld ?_
              rotate_left
              · intro w hSw
                (try dsimp only at hSw)
                go_split_ands
                go_simp
                (try with_reducible rfl)
              try simp only [Act.put, List.getElem_toArray, List.getElem_cons_succ, List.getElem_cons_zero, List.setIfInBounds_toArray, List.set_cons_zero, List.set_cons_succ]
              refine wpAnyH_take (i := 8) (v := ?_) rfl (by kernel_rfl) (by kernel_rfl) (by kernel_rfl) (fun _ _ _ h => h) (Or.inl ⟨by kernel_rfl, ?_⟩) hHeld ?_
              rotate_left
              · intro w hSw
                (try dsimp only at hSw)
                go_split_ands
                go_simp
                (try with_reducible rfl)
              try simp only [Act.put, List.getElem_toArray, List.getElem_cons_succ, List.getElem_cons_zero, List.setIfInBounds_toArray, List.set_cons_zero, List.set_cons_succ]
              refine wpAnyH_take (i := 9) (v := ?_) rfl (by kernel_rfl) (by kernel_rfl) (by kernel_rfl) (fun _ _ _ h => h) (Or.inl ⟨by kernel_rfl, ?_⟩) hHeld ?_
              rotate_left
              · intro w hSw
                (try dsimp only at hSw)
                go_split_ands
                go_simp
                (try with_reducible rfl)
              try simp only [Act.put, List.getElem_toArray, List.getElem_cons_succ, List.getElem_cons_zero, List.setIfInBounds_toArray, List.set_cons_zero, List.set_cons_succ]
              refine wpAnyH_take (i := 10) (v := ?_) rfl (by kernel_rfl) (by kernel_rfl) (by kernel_rfl) (fun _ _ _ h => h) (Or.inl ⟨by kernel_rfl, ?_⟩) hHeld ?_
              rotate_left
              · intro w hSw
                (try dsimp only at hSw)
                go_split_ands
                go_simp
                (try with_reducible rfl)
              try simp only [Act.put, List.getElem_toArray, List.getElem_cons_succ, List.getElem_cons_zero, List.setIfInBounds_toArray, List.set_cons_zero, List.set_cons_succ]
              refine wpAnyH_ready (rs := [6]) (by kernel_rfl) (by simp) ?_
              refine AllReadyH.cons rfl (fun KK hK => ?_) AllReadyH.nil
              clear hHeld
              go_simp
              refine (HVB.out _).mono ?_
              rintro e w9 ⟨rfl, rfl⟩
              go_simp
              refine hK.out _ _ trivial (fun hHeld => ?_)
              clear hK KK
              try simp only [Act.put, List.getElem_toArray, List.getElem_cons_succ, List.getElem_cons_zero, List.setIfInBounds_toArray, List.set_cons_zero, List.set_cons_succ]
              refine wpAnyH_ready (rs := [11]) (by kernel_rfl) (by simp) ?_
              refine AllReadyH.cons rfl (fun KK hK => ?_) AllReadyH.nil
              clear hHeld
              go_simp
              refine (HCR.out _).mono ?_
              rintro e w2 ⟨rfl, h⟩
              have X_2 := Lib.hid (X_1.out.trans h)
              have R_2 := Lib.hid (R_1.out.ext h)
              clear h X_1 R_1
              go_simp
              refine hK.out _ _ trivial (fun hHeld => ?_)
              clear hK KK
              try simp only [Act.put, List.getElem_toArray, List.getElem_cons_succ, List.getElem_cons_zero, List.setIfInBounds_toArray, List.set_cons_zero, List.set_cons_succ]
              refine wpAnyH_take (i := 12) (v := ?_) rfl (by kernel_rfl) (by kernel_rfl) (by kernel_rfl) (fun _ _ _ h => h) (Or.inl ⟨by kernel_rfl, ?_⟩) hHeld ?_
              rotate_left
              · intro w hSw
                (try dsimp only at hSw)
                go_split_ands
                go_simp
                (try with_reducible rfl)
              try simp only [Act.put, List.getElem_toArray, List.getElem_cons_succ, List.getElem_cons_zero, List.setIfInBounds_toArray, List.set_cons_zero, List.set_cons_succ]
              refine wpAnyH_done (by kernel_rfl) ?_ _
              clear hHeld
              by_cases qs : u ≠ v
              · have t3 : ((u : Int) != (v : Int)) = true := by rw [bne_iff_ne]; omega
                have HB := Lib.hid (HBad.out 3 (pstep_sum q12 H4.out HN.out qn HK.out QK.out HBB.out HA.out HU.out HV.out qs))
                clear HBad HNx HP HF
                have hv := (HE.out.ext X_2.out).var 3 (by decide)
                simp only [gk, sentV] at hv
                go_wp2_with fail
                refine (fail_any _ _ _ _).mono ?_
                rintro e w9 ⟨rfl, rfl⟩
                go_wp2_with fail
                go_ret2
                exact read_err (k := pos) X_2.out (by decide) (by omega) HB.out
              · have t3 : ((u : Int) != (v : Int)) = false := by obtain rfl : u = v := Classical.not_not.1 qs; exact bne_self_eq_false _
                obtain ⟨f2, hf2, hp2⟩ := HNx.out n ⟨K, D⟩ (pstep_next q12 H4.out HN.out qn HK.out QK.out HBB.out HA.out HD.out HU.out HV.out qs)
                have HF2 := Lib.hid hf2
                have HP2 := Lib.hid (hp2.symm.trans HP.out)
                clear hf2 hp2 HBad HNx HP HF
                go_wp2_with fail
                have HRd : Hid (w2.drew.ownsRow w.heap.size 110 2 (.slice vx al vc) al (ckL acc)) := R_2
                refine wp_region_held_drew (S := fun w' => True) (by kernel_rfl) trivial (fun hHeld => ?_)
                clear hHeld
                have hHeld : True := trivial
                refine wpAnyH_take (i := 0) (v := ?_) rfl (by kernel_rfl) (by kernel_rfl) (by kernel_rfl) (fun _ _ _ h => h) (Or.inl ⟨by kernel_rfl, ?_⟩) hHeld ?_
                rotate_left
                · intro w hSw
                  (try dsimp only at hSw)
                  go_split_ands
                  go_simp
                  (try with_reducible rfl)
                try simp only [Act.put, List.getElem_toArray, List.getElem_cons_succ, List.getElem_cons_zero, List.setIfInBounds_toArray, List.set_cons_zero, List.set_cons_succ]
                refine wpAnyH_take (i := 1) (v := ?_) rfl (by kernel_rfl) (by kernel_rfl) (by kernel_rfl) (fun _ _ _ h => h) (Or.inl ⟨by kernel_rfl, ?_⟩) hHeld ?_
                rotate_left
                · intro w hSw
                  (try dsimp only at hSw)
                  go_split_ands
                  go_simp
                  (try with_reducible rfl)
                try simp only [Act.put, List.getElem_toArray, List.getElem_cons_succ, List.getElem_cons_zero, List.setIfInBounds_toArray, List.set_cons_zero, List.set_cons_succ]
                refine wpAnyH_take (i := 2) (v := ?_) rfl (by kernel_rfl) (by kernel_rfl) (by kernel_rfl) (fun _ _ _ h => h) (Or.inl ⟨by kernel_rfl, ?_⟩) hHeld ?_
                rotate_left
                · intro w hSw
                  (try dsimp only at hSw)
                  go_split_ands
                  go_simp
                  (try with_reducible rfl)
                try simp only [Act.put, List.getElem_toArray, List.getElem_cons_succ, List.getElem_cons_zero, List.setIfInBounds_toArray, List.set_cons_zero, List.set_cons_succ]
                refine wpAnyH_take (i := 3) (v := ?_) rfl (by kernel_rfl) (by kernel_rfl) (by kernel_rfl) (fun _ _ _ h => h) (Or.inl ⟨by kernel_rfl, ?_⟩) hHeld ?_
                rotate_left
                · intro w hSw
                  (try dsimp only at hSw)
                  go_split_ands
                  go_simp
                  (try with_reducible rfl)
                try simp only [Act.put, List.getElem_toArray, List.getElem_cons_succ, List.getElem_cons_zero, List.setIfInBounds_toArray, List.set_cons_zero, List.set_cons_succ]
                refine wpAnyH_take (i := 4) (v := ?_) rfl (by kernel_rfl) (by kernel_rfl) (by kernel_rfl) (fun _ _ _ h => h) (Or.inl ⟨by kernel_rfl, ?_⟩) hHeld ?_
                rotate_left
                · intro w hSw
                  (try dsimp only at hSw)
                  go_split_ands
                  go_simp
                  (try with_reducible rfl)
                try simp only [Act.put, List.getElem_toArray, List.getElem_cons_succ, List.getElem_cons_zero, List.setIfInBounds_toArray, List.set_cons_zero, List.set_cons_succ]
                refine wpAnyH_take (i := 5) (v := ?_) rfl (by kernel_rfl) (by kernel_rfl) (by kernel_rfl) (fun _ _ _ h => h) (Or.inl ⟨by kernel_rfl, ?_⟩) hHeld ?_
                rotate_left
                · intro w hSw
                  (try dsimp only at hSw)
                  go_split_ands
                  go_simp
                  (try with_reducible rfl)
                try simp only [Act.put, List.getElem_toArray, List.getElem_cons_succ, List.getElem_cons_zero, List.setIfInBounds_toArray, List.set_cons_zero, List.set_cons_succ]
                refine wpAnyH_take (i := 6) (v := ?_) rfl (by kernel_rfl) (by kernel_rfl) (by kernel_rfl) (fun _ _ _ h => h) (Or.inl ⟨by kernel_rfl, ?_⟩) hHeld ?_
                rotate_left
                · intro w hSw
                  (try dsimp only at hSw)
                  go_split_ands
                  go_simp
                  (try with_reducible rfl)
                try simp only [Act.put, List.getElem_toArray, List.getElem_cons_succ, List.getElem_cons_zero, List.setIfInBounds_toArray, List.set_cons_zero, List.set_cons_succ]
                refine wpAnyH_take (i := 7) (v := ?_) rfl (by kernel_rfl) (by kernel_rfl) (by kernel_rfl) (fun _ _ _ h => h) (Or.inl ⟨by kernel_rfl, ?_⟩) hHeld ?_
                rotate_left
                · intro w hSw
                  (try dsimp only at hSw)
                  go_split_ands
                  go_simp
                  (try with_reducible rfl)
                try simp only [Act.put, List.getElem_toArray, List.getElem_cons_succ, List.getElem_cons_zero, List.setIfInBounds_toArray, List.set_cons_zero, List.set_cons_succ]
                refine wpAnyH_ready (rs := [8]) (by kernel_rfl) (by simp) ?_
                refine AllReadyH.cons rfl (fun KK hK => ?_) AllReadyH.nil
                clear hHeld
                go_simp
                refine hK.out _ _ trivial (fun hHeld => ?_)
                clear hK KK
                try simp only [Act.put, List.getElem_toArray, List.getElem_cons_succ, List.getElem_cons_zero, List.setIfInBounds_toArray, List.set_cons_zero, List.set_cons_succ]
                refine wpAnyH_ready (rs := [9]) (by kernel_rfl) (by simp) ?_
                refine AllReadyH.cons rfl (fun KK hK => ?_) AllReadyH.nil
                clear hHeld
                refine step_append_lies _ rfl (.tmp 77) (.tmp 85) 72 rfl w.heap.size 110 i0 _ 2 32 Tryd.underlying72 hi0 hz0 hz1 hz2 rfl (by decide) (.slice vx al vc) al (ckL acc) (by simp [Act.eval]) (HRd.out.alloc _) ⟨w2.heap.size, 0, none⟩ 1 1 [.string K, .string D] (by simp [Act.eval]) rfl (two_new _ _ _ _) (two_one _ _) (by omega) (by unfold maxLen; omega) (by omega) (by have := X_2.out.size; simp; omega) _ rfl ?_
                intro g1 cap1 w7 hown1 hgrow1 hat1 hlt1
                have P1 := ck_push (w0 := w) (L := acc) (k := K) (d := D) ((show Ext w w2.drew from Below.drew X_2.out).alloc _) (by rw [HAL.out]; exact HRd.out.alloc _) hgrow1 (by rw [HAL.out]; exact hown1)
                rw [List.length_append, HAL.out] at P1
                have HR7 := Lib.hid P1.1
                have HX7 := Lib.hid P1.2
                clear hown1 hgrow1 hat1 hlt1 P1
                refine hK.out _ _ trivial (fun hHeld => ?_)
                clear hK KK
                try simp only [Act.put, List.getElem_toArray, List.getElem_cons_succ, List.getElem_cons_zero, List.setIfInBounds_toArray, List.set_cons_zero, List.set_cons_succ]
                refine wpAnyH_take (i := 10) (v := ?_) rfl (by kernel_rfl) (by kernel_rfl) (by kernel_rfl) (fun _ _ _ h => h) (Or.inl ⟨by kernel_rfl, ?_⟩) hHeld ?_
                rotate_left
                · intro w hSw
                  (try dsimp only at hSw)
                  go_split_ands
                  go_simp
                  (try with_reducible rfl)
                try simp only [Act.put, List.getElem_toArray, List.getElem_cons_succ, List.getElem_cons_zero, List.setIfInBounds_toArray, List.set_cons_zero, List.set_cons_succ]
                refine wpAnyH_done (by kernel_rfl) ?_ _
                clear hHeld
                go_wp2_with fail
                go_roundw
                case rel => exact ⟨pos + 12 + n, f2, acc ++ [⟨K, D⟩], by go_num, by have := HTS.out; omega, by rw [List.length_append, HAL.out]; simp; omega, HF2, HP2, Lib.hid (by rw [List.length_append, HAL.out]; exact HR7.out), HX7⟩
                case measure => simp [intOf]; have := HTS.out; omega
            · have qk' : kindB K.data.toList = false := by simpa using qk
              have HB := Lib.hid (HBad.out 0 (pstep_kind q12 H4.out HN.out qn HK.out qk'))
              clear HBad HNx HP HF qk
              go_wp2_with fail
              refine (HVA.out _).mono ?_
              rintro e w9 ⟨rfl, rfl⟩
              go_wp2_with fail
              refine (HIK.out _).mono ?_
              rintro e w9 ⟨rfl, rfl⟩
              rw [qk']
              clear qk'
              have hv := (HE.out.ext HW.out).var 0 (by decide)
              simp only [gk, sentV] at hv
              go_wp2_with fail
              refine (fail_any _ _ _ _).mono ?_
              rintro e w9 ⟨rfl, rfl⟩
              go_wp2_with fail
              go_ret2
              exact read_err (k := pos) HW.out (by decide) (by omega) HB.out
      · obtain rfl : pos = s.size := by omega
        have HL : Hid (R = .ok acc) := Lib.hid (by rw [← HP.out, parse_end (Nat.le_refl _)])
        obtain ⟨x, c, rfl, hC⟩ := Cks.of_own HR.out
        have HC := Lib.hid hC
        clear hC
        go_wp2_with fail
        go_ret2
        exact read_fin HW.out HC.out HL.out
  · have qd : decide (s.data.toList.take (⟨sigB.toArray⟩ : ByteArray).size = (⟨sigB.toArray⟩ : ByteArray).data.toList) = false := decide_eq_false qp
    have HB : Hid (readL s = .bad 0 0) := Lib.hid (by unfold readL; rw [if_neg qp])
    clear qp
    go_enter Tryd.func50, Tryd.ntmps50
    go_wp2_with fail
    refine (HPX.out _).mono ?_
    rintro e w9 ⟨rfl, rfl⟩
    rw [qd]
    clear qd
    have hv := (HE.out.ext (Ext.refl w)).var 0 (by decide)
    simp only [gk, sentV] at hv
    go_wp2_with fail
    refine (fail_any _ _ _ _).mono ?_
    rintro e w9 ⟨rfl, rfl⟩
    go_wp2_with fail
    go_ret2
    exact read_err (k := 0) (Ext.refl w) (by decide) (by omega) HB.out
end Go.Proofs.YtkfjcgcgfdibaaaDoor
