/- The document's ChunksOf. -/
import Derived.Test.YtkfjcgcgfdibaaaDoorChkR
import Derived.Test.YtkfjcgcgfdibaaaDoorChkFile
namespace Go.Proofs.YtkfjcgcgfdibaaaDoor
open Go.RowKit
set_option maxRecDepth 100000
def ROfPost (w w' : World) (r : PRes) (e : Ending) : Prop :=
  Ext w w' ∧ ((∃ L x c, r = .ok L ∧ e = .returned (.tuple #[.slice x L.length c, .agg #[.int .i64 0, .int .i64 (-1)]]) ∧ Cks w' x L) ∨ (∃ c i : Nat, c < 9 ∧ r = .bad c i ∧ e = .returned (.tuple #[.slice none 0 0, .agg #[.int .i64 ((c : Int) + 1), .int .i64 (i : Int)]])))
theorem rckinf : (Tryd.prog.info? 75).map (fun i => (i.zero, i.size, i.bytes)) = some (some (.agg #[.string ⟨#[]⟩, .string ⟨#[]⟩]), 2, 32) := by kernel_rfl
def Rv (B : Nat) (w : World) (v : Value) (n : Nat) (L : List Ck) : Prop := w.ownsRow B 75 2 v n (ckL L)
theorem Rv.ext {B : Nat} {w w' : World} {v : Value} {n : Nat} {L : List Ck} (h : Rv B w v n L) (hE : Ext w w') : Rv B w' v n L := ownsRow_kept (S := fun _ => False) h hE.keeps (fun _ _ => id)
theorem rck_push {w0 wr w1 : World} {B : Nat} {v v' : Value} {L : List Ck} {k d : ByteArray} {T : TypeId} (hE : Ext w0 wr) (hB : w0.heap.size ≤ B) (hR : wr.ownsRow B T 2 v L.length (ckL L)) (hg : wr.grownBy w1 v.ownBlock)
    (ho : w1.ownsRow B T 2 v' (L.length + 1) (ckL L ++ [.string k, .string d])) : w1.ownsRow B T 2 v' (L ++ [(⟨k, d⟩ : Ck)]).length (ckL (L ++ [(⟨k, d⟩ : Ck)])) ∧ Ext w0 w1 ∧ Keeps (fun i => B ≤ i) wr w1 := by
  have hlt : ∀ k, v.ownBlock = some k → B ≤ k := fun k e => (hR.lt k e).1
  refine ⟨?_, Below.trans hE ((Keeps.grown hg).below hE.size (fun k hk e => by have := hlt k e; omega)), (Keeps.grown hg).mono (fun i _ e => hlt i e)⟩
  rw [ckL_snoc, List.length_append]
  exact ho
theorem own_cks {w w' : World} {B F : Nat} {e : TypeId} {v : Value} {L : List Ck} (h : w.ownsRow B e 2 v L.length (ckL L)) (hF : F < B) (hw : ∀ k, k < w.heap.size → k ≠ F → w'.heap[k]? = w.heap[k]?) : ∃ x c, v = .slice x L.length c ∧ Cks w' x L := by
  obtain ⟨x, c, hv, hC⟩ := Cks.of_own h
  refine ⟨x, c, hv, hC.1, fun a ha i q hi => ?_⟩
  obtain ⟨c0, c1⟩ := hC.2 a ha i q hi
  have hl : (a.add (i * 2)).block < w.heap.size := World.block_lt_of_cell? w _ c0
  have hb : (a.add (i * 2)).block = a.block := by unfold Addr.add; split <;> rfl
  have hg : B ≤ a.block := by
    rcases ownsRow_slice h with ⟨q, _⟩ | ⟨g, cap, q⟩
    · rw [hv, ha] at q; cases q
    · rw [hv, ha] at q
      have : a = ⟨g, 0, none⟩ := by injection q with q _ _; injection q
      subst this
      exact (h.lt g (by rw [hv, ha]; rfl)).1
  have hne : (a.add (i * 2)).block ≠ F := by rw [hb]; omega
  exact ⟨(World.cell?_of_block (a := a.add (i * 2)) (hw _ hl hne)).trans c0, (World.cell?_of_block (a := ⟨_, _, none⟩) (hw _ hl hne)).trans c1⟩
theorem set2_far (w : World) (F : Nat) (x y : Value) : ∀ k, k < w.heap.size → k ≠ F → ((w.setCell ⟨F, 0, none⟩ x).setCell ⟨F, 1, none⟩ y).heap[k]? = w.heap[k]? := by
  intro k _ hk
  rw [Below.heap_setCell _ _ _ _ (fun e => hk e), Below.heap_setCell _ _ _ _ (fun e => hk e)]
theorem ex_take (s : ByteArray) (n : Nat) : (s.extract 0 n).data.toList = s.data.toList.take n := by rw [ByteArray.data_extract, Array.toList_extract]; simp
theorem ex_ex {s : ByteArray} {p a b : Nat} (h : p + b ≤ s.size) : (s.extract p s.size).extract a b = s.extract (p + a) (p + b) := by rw [ByteArray.extract_extract, Nat.min_eq_left h]
set_option linter.unusedSimpArgs false in
set_option maxHeartbeats 4000000 in
theorem chunksOf_any (s : ByteArray) (w : World) (hs : s.size ≤ 300000) :
    Calls Tryd.prog 54 #[.string s] w fun e w' => ROfPost w w' (readL s) e := by
  obtain ⟨i0, hi0, hz0, hz1, hz2⟩ := info_parts rckinf
  have tm : decide ((300000 : Int) < (s.size : Int)) = false := decide_eq_false (by omega)
  go_enter Tryd.func54, Tryd.ntmps54
  have mixed : Tryd.prog.follows .mixedOrders = true := by kernel_rfl
  by_cases q8 : s.size < 8
  · have t8 : decide ((s.size : Int) < 8) = true := decide_eq_true (by omega)
    have HBB : Hid (readL s = .bad 0 0) := Lib.hid (by
        unfold readL; rw [if_neg]; intro q
        have := congrArg List.length q
        rw [List.length_take] at this
        have e1 : s.data.toList.length = s.size := rfl
        have e2 : sigB.length = 8 := rfl
        omega)
    go_wp2_with fail
    refine wp_world (fun wz => Ext w wz ∧ Bk wz w.heap.size #[.int .i64 0, .int .i64 0] ∧ w.heap.size < wz.heap.size) ⟨(Ext.refl _).alloc _, Bk.at rfl, by simp⟩ ?_
    rintro w1 ⟨hX, hB, hZ⟩
    obtain ⟨F, hF0⟩ : ∃ F, w.heap.size = F := ⟨_, rfl⟩
    have HF_ := Lib.hid hF0
    rw [hF0] at hB hZ ⊢
    clear hF0
    have HX1 := Lib.hid hX
    have HB1 := Lib.hid hB
    have HZ := Lib.hid hZ
    clear hX hB hZ
    go_region
    all_goals
      have hdE : Ext w1 w1.drew := Below.drew (Ext.refl w1)
      generalize w1.drew = wd at hdE ⊢
      have r0 := (HB1.out.ext hdE).cell 0
      have s0 := (HB1.out.ext hdE).frozen 0
      have r1 := (HB1.out.ext hdE).cell 1
      have s1 := (HB1.out.ext hdE).frozen 1
      have FS := Lib.hid (flt_set (x' := .int .i64 1) (y' := .int .i64 0) (HX1.out.trans hdE) (Nat.le_of_eq HF_.out) (HB1.out.ext hdE))
      go_wp2_with fail
      obtain ⟨u0, u1⟩ : _ ∧ _ := ⟨FS.out.2.cell 0, FS.out.2.cell 1⟩
      exact bodyPost_ret (v := .tuple #[.slice none 0 0, .agg #[.int .i64 1, .int .i64 0]]) (by simp [results, Tryd.results54, go_sem, u0, u1]) rfl ⟨FS.out.1, .inr ⟨0, 0, by decide, HBB.out, rfl⟩⟩
  · have t8 : decide ((s.size : Int) < 8) = false := decide_eq_false (by omega)
    have h88 : (8 : Int) ≤ (s.size : Int) := by omega
    obtain ⟨S8, hS8⟩ : ∃ b, s.extract 0 8 = b := ⟨_, rfl⟩
    have HS8 : Hid (S8.data.toList = s.data.toList.take 8) := Lib.hid (by rw [← hS8, ex_take])
    obtain ⟨SG, hSG⟩ : ∃ b : ByteArray, b = ⟨sigB.toArray⟩ := ⟨_, rfl⟩
    have hsg := fun w => sig_any w
    rw [← hSG] at hsg
    have HSG := Lib.hid hsg
    have HSGL : Hid (SG.data.toList = sigB) := Lib.hid (by rw [hSG])
    clear hsg hSG
    go_wp2_with fail
    refine wp_world (fun wz => Ext w wz ∧ Bk wz w.heap.size #[.int .i64 0, .int .i64 0] ∧ w.heap.size < wz.heap.size) ⟨(Ext.refl _).alloc _, Bk.at rfl, by simp⟩ ?_
    rintro w1 ⟨hX, hB, hZ⟩
    obtain ⟨F, hF0⟩ : ∃ F, w.heap.size = F := ⟨_, rfl⟩
    have HF_ := Lib.hid hF0
    rw [hF0] at hB hZ ⊢
    clear hF0
    have HX1 := Lib.hid hX
    have HB1 := Lib.hid hB
    have HZ := Lib.hid hZ
    clear hX hB hZ
    have X_1 := Lib.hid (Ext.refl w1)
    refine wp_region_held_drew (S := fun w' => True) (by kernel_rfl) trivial (fun hHeld => ?_)
    clear hHeld
    refine anyHw (fun wz => Ext w1 wz) (show Ext w1 w1.drew from Below.drew (Ext.refl w1)) ?_
    rintro w2 h
    have X_2 := Lib.hid (X_1.out.trans h)
    clear h X_1
    have hHeld : True := trivial
    refine wpAnyH_take (i := 0) (v := ?_) rfl (by kernel_rfl) (by kernel_rfl) (by kernel_rfl) (fun _ _ _ h => h) (Or.inl ⟨by kernel_rfl, ?_⟩) hHeld ?_
    rotate_left
    · intro w hSw
      (try dsimp only at hSw)
      go_split_ands
      go_simp
      (try with_reducible rfl)
    try simp only [Act.put, List.getElem_toArray, List.getElem_cons_succ, List.getElem_cons_zero, List.setIfInBounds_toArray, List.set_cons_zero, List.set_cons_succ]
    refine wpAnyH_take (i := 1) (v := ?_) rfl (by kernel_rfl) (by kernel_rfl) (by kernel_rfl) (fun _ _ _ h => h) (Or.inl ⟨by kernel_rfl, ?_⟩) hHeld ?_
    rotate_left
    · intro w hSw
      (try dsimp only at hSw)
      go_split_ands
      go_simp
      (try with_reducible rfl)
    try simp only [Act.put, List.getElem_toArray, List.getElem_cons_succ, List.getElem_cons_zero, List.setIfInBounds_toArray, List.set_cons_zero, List.set_cons_succ]
    refine wpAnyH_take (i := 2) (v := ?_) rfl (by kernel_rfl) (by kernel_rfl) (by kernel_rfl) (fun _ _ _ h => h) (Or.inl ⟨by kernel_rfl, ?_⟩) hHeld ?_
    rotate_left
    · intro w hSw
      (try dsimp only at hSw)
      go_split_ands
      go_simp
      (try with_reducible rfl)
    try simp only [Act.put, List.getElem_toArray, List.getElem_cons_succ, List.getElem_cons_zero, List.setIfInBounds_toArray, List.set_cons_zero, List.set_cons_succ]
    refine wpAnyH_take (i := 3) (v := ?_) rfl (by kernel_rfl) (by kernel_rfl) (by kernel_rfl) (fun _ _ _ h => h) (Or.inl ⟨by kernel_rfl, ?_⟩) hHeld ?_
    rotate_left
    · intro w hSw
      (try dsimp only at hSw)
      go_split_ands
      go_simp
      (try with_reducible rfl)
    try simp only [Act.put, List.getElem_toArray, List.getElem_cons_succ, List.getElem_cons_zero, List.setIfInBounds_toArray, List.set_cons_zero, List.set_cons_succ]
    refine wpAnyH_take (i := 4) (v := ?_) rfl (by kernel_rfl) (by kernel_rfl) (by kernel_rfl) (fun _ _ _ h => h) (Or.inl ⟨by kernel_rfl, ?_⟩) hHeld ?_
    rotate_left
    · intro w hSw
      (try dsimp only at hSw)
      go_split_ands
      go_simp
      (try with_reducible rfl)
    try simp only [Act.put, List.getElem_toArray, List.getElem_cons_succ, List.getElem_cons_zero, List.setIfInBounds_toArray, List.set_cons_zero, List.set_cons_succ]
    refine wpAnyH_take (i := 5) (v := ?_) rfl (by kernel_rfl) (by kernel_rfl) (by kernel_rfl) (fun _ _ _ h => h) (Or.inl ⟨by kernel_rfl, ?_⟩) hHeld ?_
    rotate_left
    · intro w hSw
      (try dsimp only at hSw)
      go_split_ands
      go_simp
      (try with_reducible rfl)
    try simp only [Act.put, List.getElem_toArray, List.getElem_cons_succ, List.getElem_cons_zero, List.setIfInBounds_toArray, List.set_cons_zero, List.set_cons_succ]
    refine wpAnyH_ready (rs := [6]) (by kernel_rfl) (by simp) ?_
    refine AllReadyH.cons rfl (fun KK hK => ?_) AllReadyH.nil
    clear hHeld
    go_simp
    refine (HSG.out _).mono ?_
    rintro e w3 ⟨rfl, h⟩
    have X_3 := Lib.hid (X_2.out.trans h)
    clear h X_2
    go_simp
    refine hK.out _ _ trivial (fun hHeld => ?_)
    clear hK KK
    try simp only [Act.put, List.getElem_toArray, List.getElem_cons_succ, List.getElem_cons_zero, List.setIfInBounds_toArray, List.set_cons_zero, List.set_cons_succ]
    refine wpAnyH_take (i := 7) (v := ?_) rfl (by kernel_rfl) (by kernel_rfl) (by kernel_rfl) (fun _ _ _ h => h) (Or.inl ⟨by kernel_rfl, ?_⟩) hHeld ?_
    rotate_left
    · intro w hSw
      (try dsimp only at hSw)
      go_split_ands
      go_simp
      (try with_reducible rfl)
    try simp only [Act.put, List.getElem_toArray, List.getElem_cons_succ, List.getElem_cons_zero, List.setIfInBounds_toArray, List.set_cons_zero, List.set_cons_succ]
    refine wpAnyH_take (i := 8) (v := ?_) rfl (by kernel_rfl) (by kernel_rfl) (by kernel_rfl) (fun _ _ _ h => h) (Or.inl ⟨by kernel_rfl, ?_⟩) hHeld ?_
    rotate_left
    · intro w hSw
      (try dsimp only at hSw)
      go_split_ands
      go_simp
      (try with_reducible rfl)
    try simp only [Act.put, List.getElem_toArray, List.getElem_cons_succ, List.getElem_cons_zero, List.setIfInBounds_toArray, List.set_cons_zero, List.set_cons_succ]
    refine wpAnyH_done (by kernel_rfl) ?_ _
    clear hHeld
    by_cases qp : s.data.toList.take 8 = sigB
    · have hne : (S8.toList == SG.toList) = true := by rw [ByteArray.toList_eq, ByteArray.toList_eq, HS8.out, HSGL.out, qp]; exact beq_self_eq_true _
      rw [hne]
      simp only [Bool.not_true]
      clear hne
      have hP0 : parse s (s.size + 1) 8 [] = readL s := by unfold readL; rw [if_pos qp]
      have HP0 := Lib.hid hP0
      clear hP0 qp
      have HX2 := X_3
      go_wp2_with fail
      go_loopw [4, 5] (fun v q wr => ∃ (pos f : Nat) (acc : List Ck), q = .int .i64 pos ∧ pos ≤ s.size ∧ acc.length ≤ pos ∧ Hid (s.size - pos < f) ∧ Hid (parse s f pos acc = readL s) ∧ Hid (Rv w1.heap.size wr v (acc).length (acc)) ∧ Hid (Ext w1 wr)) (fun _ q _ => s.size - (intOf q).toNat)
      case atStart => exact ⟨8, s.size + 1, [], rfl, by omega, by simp, Lib.hid (by omega), HP0, Lib.hid (World.ownsRow_nil _ _ _ _), HX2⟩
      case round =>
        clear HP0 HX2 X_3
        obtain ⟨pos, f, acc, rfl, hpos, hacc, HF, HP, HR, HW⟩ := hrel
        by_cases hlt : pos < s.size
        · obtain ⟨vx, vc, rfl⟩ := own_lit HR.out
          obtain ⟨al, hal⟩ : ∃ al, acc.length = al := ⟨_, rfl⟩
          rw [hal] at HR hacc
          have HAL := Lib.hid hal
          rw [hal]
          clear hal
          have hTs := ex_size hpos
          obtain ⟨T, hT⟩ : ∃ T, s.extract pos s.size = T := ⟨_, rfl⟩
          rw [hT] at hTs
          have HTS := Lib.hid hTs
          have hTb : T.size = s.size - pos := by omega
          have HTb := Lib.hid hTb
          clear hTs
          have HBad := Lib.hid (fun c (h : pstep T = .bad c) => HP.out.symm.trans (parse_bad hlt HF.out hT h))
          have HNx := Lib.hid (fun n c (h : pstep T = .next n c) => parse_next (acc := acc) hlt HF.out hT h)
          by_cases q12 : T.size < 12
          · have t1 : decide ((s.size : Int) < (pos : Int) + 12) = true := decide_eq_true (by omega)
            have HBB := Lib.hid (HBad.out 0 (pstep_short q12))
            clear HBad HNx HP HF HR
            have r0 := (HB1.out.ext HW.out).cell 0
            have s0 := (HB1.out.ext HW.out).frozen 0
            have r1 := (HB1.out.ext HW.out).cell 1
            have s1 := (HB1.out.ext HW.out).frozen 1
            have FS := Lib.hid (flt_set (x' := .int .i64 1) (y' := .int .i64 (pos : Int)) (HX1.out.trans HW.out) (Nat.le_of_eq HF_.out) (HB1.out.ext HW.out))
            go_wp2_with fail
            obtain ⟨u0, u1⟩ : _ ∧ _ := ⟨FS.out.2.cell 0, FS.out.2.cell 1⟩
            exact bodyPost_ret (v := .tuple #[.slice none 0 0, .agg #[.int .i64 1, .int .i64 (pos : Int)]]) (by simp [results, Tryd.results54, go_sem, u0, u1]) rfl ⟨FS.out.1, .inr ⟨0, pos, by decide, HBB.out, rfl⟩⟩
          · have t1 : decide ((s.size : Int) < (pos : Int) + 12) = false := decide_eq_false (by omega)
            have Q12 := Lib.hid q12
            obtain ⟨T4, h4⟩ : ∃ b, T.extract 0 4 = b := ⟨_, rfl⟩
            obtain ⟨n, hn⟩ : ∃ n, valN T4.data.toList = n := ⟨_, rfl⟩
            have hnl : n < 4294967296 := by rw [← hn]; exact valN_lt _
            have hva := fun w => bigOf_any T w (by unfold maxLen; omega) (by omega)
            rw [← ex_take, h4, hn] at hva
            have HVA := Lib.hid hva
            clear hva
            have H4 := Lib.hid h4
            have HN := Lib.hid hn
            clear hn h4
            have hw64 : IntKind.i64.wrap ((n : Int)) = (n : Int) := by unfold IntKind.wrap; simp [IntKind.bits, IntKind.signed]; omega
            by_cases qn : T.size - 12 < n
            · have t2 : decide ((s.size : Int) < (pos : Int) + 12 + (n : Int)) = true := decide_eq_true (by omega)
              have HBB := Lib.hid (HBad.out 0 (pstep_over Q12.out H4.out HN.out qn))
              clear HBad HNx HP HF HR
              go_wp2_with fail
              refine (HVA.out _).mono ?_
              rintro e w9 ⟨rfl, rfl⟩
              have r0 := (HB1.out.ext HW.out).cell 0
              have s0 := (HB1.out.ext HW.out).frozen 0
              have r1 := (HB1.out.ext HW.out).cell 1
              have s1 := (HB1.out.ext HW.out).frozen 1
              have FS := Lib.hid (flt_set (x' := .int .i64 1) (y' := .int .i64 (pos : Int)) (HX1.out.trans HW.out) (Nat.le_of_eq HF_.out) (HB1.out.ext HW.out))
              go_wp2_with fail
              obtain ⟨u0, u1⟩ : _ ∧ _ := ⟨FS.out.2.cell 0, FS.out.2.cell 1⟩
              exact bodyPost_ret (v := .tuple #[.slice none 0 0, .agg #[.int .i64 1, .int .i64 (pos : Int)]]) (by simp [results, Tryd.results54, go_sem, u0, u1]) rfl ⟨FS.out.1, .inr ⟨0, pos, by decide, HBB.out, rfl⟩⟩
            · have t2 : decide ((s.size : Int) < (pos : Int) + 12 + (n : Int)) = false := decide_eq_false (by omega)
              have QN := Lib.hid qn
              have hpn : pos + 12 + n ≤ s.size := by omega
              obtain ⟨K, hK⟩ : ∃ b, T.extract 4 8 = b := ⟨_, rfl⟩
              have HIK := Lib.hid (fun w => refKind_any K w)
              have HK := Lib.hid hK
              have eK : s.extract (pos + 4) (pos + 8) = K := by rw [← hK, ← hT, ex_ex (by omega)]
              have c1 : (0 : Int) ≤ (pos : Int) + 4 := by omega
              have c2 : (pos : Int) + 4 ≤ (pos : Int) + 8 := by omega
              have c3 : (pos : Int) + 8 ≤ (s.size : Int) := by omega
              have c4 : (0 : Int) ≤ (pos : Int) + 8 := by omega
              have m1 : ((pos : Int) + 4).toNat = pos + 4 := by omega
              have m2 : ((pos : Int) + 8).toNat = pos + 8 := by omega
              by_cases qk : kindB K.data.toList = true
              · have QK := Lib.hid qk
                clear qk
                obtain ⟨B, hB⟩ : ∃ b, T.extract (8 + n) (12 + n) = b := ⟨_, rfl⟩
                obtain ⟨A, hA⟩ : ∃ b, T.extract 4 (8 + n) = b := ⟨_, rfl⟩
                obtain ⟨D, hD⟩ : ∃ b, T.extract 8 (8 + n) = b := ⟨_, rfl⟩
                obtain ⟨B2, hB2⟩ : ∃ b, s.extract (pos + 8 + n) s.size = b := ⟨_, rfl⟩
                obtain ⟨u, hu⟩ : ∃ u, valN B.data.toList = u := ⟨_, rfl⟩
                obtain ⟨v, hv⟩ : ∃ v, Crc.crc A.data.toList = v := ⟨_, rfl⟩
                have hB2s : B2.size = s.size - (pos + 8 + n) := by rw [← hB2, ByteArray.size_extract]; omega
                have hvb := fun w => bigOf_any B2 w (by unfold maxLen; omega) (by omega)
                have hBB : B2.extract 0 4 = B := by rw [← hB2, ← hB, ← hT, ex_ex (by omega), ex_ex (by omega)]; congr 1 <;> omega
                rw [← ex_take, hBB, hu] at hvb
                have HVB := Lib.hid hvb
                have hcr := fun w => refCRC_any A w (by rw [← hA, ByteArray.size_extract]; unfold maxLen; omega)
                rw [hv] at hcr
                have HCR := Lib.hid hcr
                have eA : s.extract (pos + 4) (pos + 8 + n) = A := by rw [← hA, ← hT, ex_ex (by omega)]; congr 1; omega
                have eD : s.extract (pos + 8) (pos + 8 + n) = D := by rw [← hD, ← hT, ex_ex (by omega)]; congr 1; omega
                have HBX := Lib.hid hB
                have HA := Lib.hid hA
                have HD := Lib.hid hD
                have HU := Lib.hid hu
                have HV := Lib.hid hv
                clear hvb hcr hu hv hB hA hD hBB hB2s
                have b1 : (pos : Int) + 8 + (n : Int) ≤ (s.size : Int) := by omega
                have b2 : (0 : Int) ≤ (pos : Int) + 8 + (n : Int) := by omega
                have b3 : (pos : Int) + 4 ≤ (pos : Int) + 8 + (n : Int) := by omega
                have b4 : (pos : Int) + 8 ≤ (pos : Int) + 8 + (n : Int) := by omega
                have m3 : ((pos : Int) + 8 + (n : Int)).toNat = pos + 8 + n := by omega
                have w4 : IntKind.i64.wrap ((pos : Int) + 4) = (pos : Int) + 4 := by unfold IntKind.wrap; simp [IntKind.bits, IntKind.signed]; omega
                have w8 : IntKind.i64.wrap ((pos : Int) + 8) = (pos : Int) + 8 := by unfold IntKind.wrap; simp [IntKind.bits, IntKind.signed]; omega
                have w8n : IntKind.i64.wrap ((pos : Int) + 8 + (n : Int)) = (pos : Int) + 8 + (n : Int) := by unfold IntKind.wrap; simp [IntKind.bits, IntKind.signed]; omega
                go_wp2_with fail
                refine (HVA.out _).mono ?_
                rintro e w9 ⟨rfl, rfl⟩
                go_wp2_with fail
                refine (HIK.out _).mono ?_
                rintro e w9 ⟨rfl, rfl⟩
                rw [QK.out]
                go_wp2_with fail
                have X_20 := HW
                have R_20 := HR
                clear HW HR
                refine wp_region_held_drew (S := fun w' => True) (by kernel_rfl) trivial (fun hHeld => ?_)
                clear hHeld
                refine anyHw (fun wz => Ext wr wz) (show Ext wr wr.drew from Below.drew (Ext.refl wr)) ?_
                rintro w21 h
                have X_21 := Lib.hid (X_20.out.trans h)
                have R_21 := Lib.hid (R_20.out.ext h)
                clear h X_20 R_20
                have hHeld : True := trivial
                refine wpAnyH_take (i := 0) (v := ?_) rfl (by kernel_rfl) (by kernel_rfl) (by kernel_rfl) (fun _ _ _ h => h) (Or.inl ⟨by kernel_rfl, ?_⟩) hHeld ?_
                rotate_left
                · intro w hSw
                  (try dsimp only at hSw)
                  go_split_ands
                  go_simp
                  (try with_reducible rfl)
                try simp only [Act.put, List.getElem_toArray, List.getElem_cons_succ, List.getElem_cons_zero, List.setIfInBounds_toArray, List.set_cons_zero, List.set_cons_succ]
                refine wpAnyH_take (i := 1) (v := ?_) rfl (by kernel_rfl) (by kernel_rfl) (by kernel_rfl) (fun _ _ _ h => h) (Or.inl ⟨by kernel_rfl, ?_⟩) hHeld ?_
                rotate_left
                · intro w hSw
                  (try dsimp only at hSw)
                  go_split_ands
                  go_simp
                  (try with_reducible rfl)
                try simp only [Act.put, List.getElem_toArray, List.getElem_cons_succ, List.getElem_cons_zero, List.setIfInBounds_toArray, List.set_cons_zero, List.set_cons_succ]
                refine wpAnyH_take (i := 2) (v := ?_) rfl (by kernel_rfl) (by kernel_rfl) (by kernel_rfl) (fun _ _ _ h => h) (Or.inl ⟨by kernel_rfl, ?_⟩) hHeld ?_
                rotate_left
                · intro w hSw
                  (try dsimp only at hSw)
                  go_split_ands
                  go_simp
                  (try with_reducible rfl)
                try simp only [Act.put, List.getElem_toArray, List.getElem_cons_succ, List.getElem_cons_zero, List.setIfInBounds_toArray, List.set_cons_zero, List.set_cons_succ]
                refine wpAnyH_take (i := 3) (v := ?_) rfl (by kernel_rfl) (by kernel_rfl) (by kernel_rfl) (fun _ _ _ h => h) (Or.inl ⟨by kernel_rfl, ?_⟩) hHeld ?_
                rotate_left
                · intro w hSw
                  (try dsimp only at hSw)
                  go_split_ands
                  go_simp
                  (try with_reducible rfl)
                try simp only [Act.put, List.getElem_toArray, List.getElem_cons_succ, List.getElem_cons_zero, List.setIfInBounds_toArray, List.set_cons_zero, List.set_cons_succ]
                refine wpAnyH_take (i := 4) (v := ?_) rfl (by kernel_rfl) (by kernel_rfl) (by kernel_rfl) (fun _ _ _ h => h) (Or.inl ⟨by kernel_rfl, ?_⟩) hHeld ?_
                rotate_left
                · intro w hSw
                  (try dsimp only at hSw)
                  go_split_ands
                  go_simp
                  (try with_reducible rfl)
                try simp only [Act.put, List.getElem_toArray, List.getElem_cons_succ, List.getElem_cons_zero, List.setIfInBounds_toArray, List.set_cons_zero, List.set_cons_succ]
                refine wpAnyH_take (i := 5) (v := ?_) rfl (by kernel_rfl) (by kernel_rfl) (by kernel_rfl) (fun _ _ _ h => h) (Or.inl ⟨by kernel_rfl, ?_⟩) hHeld ?_
                rotate_left
                · intro w hSw
                  (try dsimp only at hSw)
                  go_split_ands
                  go_simp
                  (try with_reducible rfl)
                try simp only [Act.put, List.getElem_toArray, List.getElem_cons_succ, List.getElem_cons_zero, List.setIfInBounds_toArray, List.set_cons_zero, List.set_cons_succ]
                refine wpAnyH_take (i := 7) (v := ?_) rfl (by kernel_rfl) (by kernel_rfl) (by kernel_rfl) (fun _ _ _ h => h) (Or.inl ⟨by kernel_rfl, ?_⟩) hHeld ?_
                rotate_left
                · intro w hSw
                  (try dsimp only at hSw)
                  go_split_ands
                  go_simp
                  (try with_reducible rfl)
                try simp only [Act.put, List.getElem_toArray, List.getElem_cons_succ, List.getElem_cons_zero, List.setIfInBounds_toArray, List.set_cons_zero, List.set_cons_succ]
                refine wpAnyH_take (i := 8) (v := ?_) rfl (by kernel_rfl) (by kernel_rfl) (by kernel_rfl) (fun _ _ _ h => h) (Or.inl ⟨by kernel_rfl, ?_⟩) hHeld ?_
                rotate_left
                · intro w hSw
                  (try dsimp only at hSw)
                  go_split_ands
                  go_simp
                  (try with_reducible rfl)
                try simp only [Act.put, List.getElem_toArray, List.getElem_cons_succ, List.getElem_cons_zero, List.setIfInBounds_toArray, List.set_cons_zero, List.set_cons_succ]
                refine wpAnyH_take (i := 9) (v := ?_) rfl (by kernel_rfl) (by kernel_rfl) (by kernel_rfl) (fun _ _ _ h => h) (Or.inl ⟨by kernel_rfl, ?_⟩) hHeld ?_
                rotate_left
                · intro w hSw
                  (try dsimp only at hSw)
                  go_split_ands
                  go_simp
                  (try with_reducible rfl)
                try simp only [Act.put, List.getElem_toArray, List.getElem_cons_succ, List.getElem_cons_zero, List.setIfInBounds_toArray, List.set_cons_zero, List.set_cons_succ]
                refine wpAnyH_take (i := 10) (v := ?_) rfl (by kernel_rfl) (by kernel_rfl) (by kernel_rfl) (fun _ _ _ h => h) (Or.inl ⟨by kernel_rfl, ?_⟩) hHeld ?_
                rotate_left
                · intro w hSw
                  (try dsimp only at hSw)
                  go_split_ands
                  go_simp
                  (try with_reducible rfl)
                try simp only [Act.put, List.getElem_toArray, List.getElem_cons_succ, List.getElem_cons_zero, List.setIfInBounds_toArray, List.set_cons_zero, List.set_cons_succ]
                refine wpAnyH_take (i := 11) (v := ?_) rfl (by kernel_rfl) (by kernel_rfl) (by kernel_rfl) (fun _ _ _ h => h) (Or.inl ⟨by kernel_rfl, ?_⟩) hHeld ?_
                rotate_left
                · intro w hSw
                  (try dsimp only at hSw)
                  go_split_ands
                  go_simp
                  (try with_reducible rfl)
                try simp only [Act.put, List.getElem_toArray, List.getElem_cons_succ, List.getElem_cons_zero, List.setIfInBounds_toArray, List.set_cons_zero, List.set_cons_succ]
                refine wpAnyH_take (i := 12) (v := ?_) rfl (by kernel_rfl) (by kernel_rfl) (by kernel_rfl) (fun _ _ _ h => h) (Or.inl ⟨by kernel_rfl, ?_⟩) hHeld ?_
                rotate_left
                · intro w hSw
                  (try dsimp only at hSw)
                  go_split_ands
                  go_simp
                  (try with_reducible rfl)
                try simp only [Act.put, List.getElem_toArray, List.getElem_cons_succ, List.getElem_cons_zero, List.setIfInBounds_toArray, List.set_cons_zero, List.set_cons_succ]
                refine wpAnyH_take (i := 13) (v := ?_) rfl (by kernel_rfl) (by kernel_rfl) (by kernel_rfl) (fun _ _ _ h => h) (Or.inl ⟨by kernel_rfl, ?_⟩) hHeld ?_
                rotate_left
                · intro w hSw
                  (try dsimp only at hSw)
                  go_split_ands
                  go_simp
                  (try with_reducible rfl)
                try simp only [Act.put, List.getElem_toArray, List.getElem_cons_succ, List.getElem_cons_zero, List.setIfInBounds_toArray, List.set_cons_zero, List.set_cons_succ]
                refine wpAnyH_take (i := 14) (v := ?_) rfl (by kernel_rfl) (by kernel_rfl) (by kernel_rfl) (fun _ _ _ h => h) (Or.inl ⟨by kernel_rfl, ?_⟩) hHeld ?_
                rotate_left
                · intro w hSw
                  (try dsimp only at hSw)
                  go_split_ands
                  go_simp
                  (try with_reducible rfl)
                try simp only [Act.put, List.getElem_toArray, List.getElem_cons_succ, List.getElem_cons_zero, List.setIfInBounds_toArray, List.set_cons_zero, List.set_cons_succ]
                refine wpAnyH_ready (rs := [6]) (by kernel_rfl) (by simp) ?_
                refine AllReadyH.cons rfl (fun KK hK => ?_) AllReadyH.nil
                clear hHeld
                go_simp
                refine (HVB.out _).mono ?_
                rintro e w9 ⟨rfl, rfl⟩
                go_simp
                refine hK.out _ _ trivial (fun hHeld => ?_)
                clear hK KK
                try simp only [Act.put, List.getElem_toArray, List.getElem_cons_succ, List.getElem_cons_zero, List.setIfInBounds_toArray, List.set_cons_zero, List.set_cons_succ]
                refine wpAnyH_ready (rs := [15]) (by kernel_rfl) (by simp) ?_
                refine AllReadyH.cons rfl (fun KK hK => ?_) AllReadyH.nil
                clear hHeld
                go_simp
                refine (HCR.out _).mono ?_
                rintro e w9 ⟨rfl, rfl⟩
                go_simp
                refine hK.out _ _ trivial (fun hHeld => ?_)
                clear hK KK
                try simp only [Act.put, List.getElem_toArray, List.getElem_cons_succ, List.getElem_cons_zero, List.setIfInBounds_toArray, List.set_cons_zero, List.set_cons_succ]
                refine wpAnyH_take (i := 16) (v := ?_) rfl (by kernel_rfl) (by kernel_rfl) (by kernel_rfl) (fun _ _ _ h => h) (Or.inl ⟨by kernel_rfl, ?_⟩) hHeld ?_
                rotate_left
                · intro w hSw
                  (try dsimp only at hSw)
                  go_split_ands
                  go_simp
                  (try with_reducible rfl)
                try simp only [Act.put, List.getElem_toArray, List.getElem_cons_succ, List.getElem_cons_zero, List.setIfInBounds_toArray, List.set_cons_zero, List.set_cons_succ]
                refine wpAnyH_done (by kernel_rfl) ?_ _
                clear hHeld
                by_cases qs : u ≠ v
                · have t3 : ((u : Int) != (v : Int)) = true := by rw [bne_iff_ne]; omega
                  have HBB := Lib.hid (HBad.out 3 (pstep_sum Q12.out H4.out HN.out QN.out HK.out QK.out HBX.out HA.out HU.out HV.out qs))
                  clear HBad HNx HP HF R_21
                  have r0 := (HB1.out.ext X_21.out).cell 0
                  have s0 := (HB1.out.ext X_21.out).frozen 0
                  have r1 := (HB1.out.ext X_21.out).cell 1
                  have s1 := (HB1.out.ext X_21.out).frozen 1
                  have FS := Lib.hid (flt_set (x' := .int .i64 4) (y' := .int .i64 (pos : Int)) (HX1.out.trans X_21.out) (Nat.le_of_eq HF_.out) (HB1.out.ext X_21.out))
                  go_wp2_with fail
                  obtain ⟨u0, u1⟩ : _ ∧ _ := ⟨FS.out.2.cell 0, FS.out.2.cell 1⟩
                  exact bodyPost_ret (v := .tuple #[.slice none 0 0, .agg #[.int .i64 4, .int .i64 (pos : Int)]]) (by simp [results, Tryd.results54, go_sem, u0, u1]) rfl ⟨FS.out.1, .inr ⟨3, pos, by decide, HBB.out, rfl⟩⟩
                · have t3 : ((u : Int) != (v : Int)) = false := by obtain rfl : u = v := Classical.not_not.1 qs; exact bne_self_eq_false _
                  obtain ⟨f2, hf2, hp2⟩ := HNx.out n ⟨K, D⟩ (pstep_next Q12.out H4.out HN.out QN.out HK.out QK.out HBX.out HA.out HD.out HU.out HV.out qs)
                  have HF2 := Lib.hid hf2
                  have HP2 := Lib.hid (hp2.symm.trans HP.out)
                  clear hf2 hp2 HBad HNx HP HF
                  go_wp2_with fail
                  have HRd : Hid (w21.drew.ownsRow w1.heap.size 75 2 (.slice vx al vc) al (ckL acc)) := R_21
                  refine wp_region_held_drew (S := fun w' => True) (by kernel_rfl) trivial (fun hHeld => ?_)
                  clear hHeld
                  have hHeld : True := trivial
                  refine wpAnyH_take (i := 0) (v := ?_) rfl (by kernel_rfl) (by kernel_rfl) (by kernel_rfl) (fun _ _ _ h => h) (Or.inl ⟨by kernel_rfl, ?_⟩) hHeld ?_
                  rotate_left
                  · intro w hSw
                    (try dsimp only at hSw)
                    go_split_ands
                    go_simp
                    (try with_reducible rfl)
                  try simp only [Act.put, List.getElem_toArray, List.getElem_cons_succ, List.getElem_cons_zero, List.setIfInBounds_toArray, List.set_cons_zero, List.set_cons_succ]
                  refine wpAnyH_take (i := 1) (v := ?_) rfl (by kernel_rfl) (by kernel_rfl) (by kernel_rfl) (fun _ _ _ h => h) (Or.inl ⟨by kernel_rfl, ?_⟩) hHeld ?_
                  rotate_left
                  · intro w hSw
                    (try dsimp only at hSw)
                    go_split_ands
                    go_simp
                    (try with_reducible rfl)
                  try simp only [Act.put, List.getElem_toArray, List.getElem_cons_succ, List.getElem_cons_zero, List.setIfInBounds_toArray, List.set_cons_zero, List.set_cons_succ]
                  refine wpAnyH_take (i := 2) (v := ?_) rfl (by kernel_rfl) (by kernel_rfl) (by kernel_rfl) (fun _ _ _ h => h) (Or.inl ⟨by kernel_rfl, ?_⟩) hHeld ?_
                  rotate_left
                  · intro w hSw
                    (try dsimp only at hSw)
                    go_split_ands
                    go_simp
                    (try with_reducible rfl)
                  try simp only [Act.put, List.getElem_toArray, List.getElem_cons_succ, List.getElem_cons_zero, List.setIfInBounds_toArray, List.set_cons_zero, List.set_cons_succ]
                  refine wpAnyH_take (i := 3) (v := ?_) rfl (by kernel_rfl) (by kernel_rfl) (by kernel_rfl) (fun _ _ _ h => h) (Or.inl ⟨by kernel_rfl, ?_⟩) hHeld ?_
                  rotate_left
                  · intro w hSw
                    (try dsimp only at hSw)
                    go_split_ands
                    go_simp
                    (try with_reducible rfl)
                  try simp only [Act.put, List.getElem_toArray, List.getElem_cons_succ, List.getElem_cons_zero, List.setIfInBounds_toArray, List.set_cons_zero, List.set_cons_succ]
                  refine wpAnyH_take (i := 4) (v := ?_) rfl (by kernel_rfl) (by kernel_rfl) (by kernel_rfl) (fun _ _ _ h => h) (Or.inl ⟨by kernel_rfl, ?_⟩) hHeld ?_
                  rotate_left
                  · intro w hSw
                    (try dsimp only at hSw)
                    go_split_ands
                    go_simp
                    (try with_reducible rfl)
                  try simp only [Act.put, List.getElem_toArray, List.getElem_cons_succ, List.getElem_cons_zero, List.setIfInBounds_toArray, List.set_cons_zero, List.set_cons_succ]
                  refine wpAnyH_take (i := 5) (v := ?_) rfl (by kernel_rfl) (by kernel_rfl) (by kernel_rfl) (fun _ _ _ h => h) (Or.inl ⟨by kernel_rfl, ?_⟩) hHeld ?_
                  rotate_left
                  · intro w hSw
                    (try dsimp only at hSw)
                    go_split_ands
                    go_simp
                    (try with_reducible rfl)
                  try simp only [Act.put, List.getElem_toArray, List.getElem_cons_succ, List.getElem_cons_zero, List.setIfInBounds_toArray, List.set_cons_zero, List.set_cons_succ]
                  refine wpAnyH_take (i := 6) (v := ?_) rfl (by kernel_rfl) (by kernel_rfl) (by kernel_rfl) (fun _ _ _ h => h) (Or.inl ⟨by kernel_rfl, ?_⟩) hHeld ?_
                  rotate_left
                  · intro w hSw
                    (try dsimp only at hSw)
                    go_split_ands
                    go_simp
                    (try with_reducible rfl)
                  try simp only [Act.put, List.getElem_toArray, List.getElem_cons_succ, List.getElem_cons_zero, List.setIfInBounds_toArray, List.set_cons_zero, List.set_cons_succ]
                  refine wpAnyH_take (i := 7) (v := ?_) rfl (by kernel_rfl) (by kernel_rfl) (by kernel_rfl) (fun _ _ _ h => h) (Or.inl ⟨by kernel_rfl, ?_⟩) hHeld ?_
                  rotate_left
                  · intro w hSw
                    (try dsimp only at hSw)
                    go_split_ands
                    go_simp
                    (try with_reducible rfl)
                  try simp only [Act.put, List.getElem_toArray, List.getElem_cons_succ, List.getElem_cons_zero, List.setIfInBounds_toArray, List.set_cons_zero, List.set_cons_succ]
                  refine wpAnyH_take (i := 8) (v := ?_) rfl (by kernel_rfl) (by kernel_rfl) (by kernel_rfl) (fun _ _ _ h => h) (Or.inl ⟨by kernel_rfl, ?_⟩) hHeld ?_
                  rotate_left
                  · intro w hSw
                    (try dsimp only at hSw)
                    go_split_ands
                    go_simp
                    (try with_reducible rfl)
                  try simp only [Act.put, List.getElem_toArray, List.getElem_cons_succ, List.getElem_cons_zero, List.setIfInBounds_toArray, List.set_cons_zero, List.set_cons_succ]
                  refine wpAnyH_take (i := 9) (v := ?_) rfl (by kernel_rfl) (by kernel_rfl) (by kernel_rfl) (fun _ _ _ h => h) (Or.inl ⟨by kernel_rfl, ?_⟩) hHeld ?_
                  rotate_left
                  · intro w hSw
                    (try dsimp only at hSw)
                    go_split_ands
                    go_simp
                    (try with_reducible rfl)
                  try simp only [Act.put, List.getElem_toArray, List.getElem_cons_succ, List.getElem_cons_zero, List.setIfInBounds_toArray, List.set_cons_zero, List.set_cons_succ]
                  refine wpAnyH_take (i := 10) (v := ?_) rfl (by kernel_rfl) (by kernel_rfl) (by kernel_rfl) (fun _ _ _ h => h) (Or.inl ⟨by kernel_rfl, ?_⟩) hHeld ?_
                  rotate_left
                  · intro w hSw
                    (try dsimp only at hSw)
                    go_split_ands
                    go_simp
                    (try with_reducible rfl)
                  try simp only [Act.put, List.getElem_toArray, List.getElem_cons_succ, List.getElem_cons_zero, List.setIfInBounds_toArray, List.set_cons_zero, List.set_cons_succ]
                  refine wpAnyH_take (i := 11) (v := ?_) rfl (by kernel_rfl) (by kernel_rfl) (by kernel_rfl) (fun _ _ _ h => h) (Or.inl ⟨by kernel_rfl, ?_⟩) hHeld ?_
                  rotate_left
                  · intro w hSw
                    (try dsimp only at hSw)
                    go_split_ands
                    go_simp
                    (try with_reducible rfl)
                  try simp only [Act.put, List.getElem_toArray, List.getElem_cons_succ, List.getElem_cons_zero, List.setIfInBounds_toArray, List.set_cons_zero, List.set_cons_succ]
                  refine wpAnyH_take (i := 12) (v := ?_) rfl (by kernel_rfl) (by kernel_rfl) (by kernel_rfl) (fun _ _ _ h => h) (Or.inl ⟨by kernel_rfl, ?_⟩) hHeld ?_
                  rotate_left
                  · intro w hSw
                    (try dsimp only at hSw)
                    go_split_ands
                    go_simp
                    (try with_reducible rfl)
                  try simp only [Act.put, List.getElem_toArray, List.getElem_cons_succ, List.getElem_cons_zero, List.setIfInBounds_toArray, List.set_cons_zero, List.set_cons_succ]
                  refine wpAnyH_take (i := 13) (v := ?_) rfl (by kernel_rfl) (by kernel_rfl) (by kernel_rfl) (fun _ _ _ h => h) (Or.inl ⟨by kernel_rfl, ?_⟩) hHeld ?_
                  rotate_left
                  · intro w hSw
                    (try dsimp only at hSw)
                    go_split_ands
                    go_simp
                    (try with_reducible rfl)
                  try simp only [Act.put, List.getElem_toArray, List.getElem_cons_succ, List.getElem_cons_zero, List.setIfInBounds_toArray, List.set_cons_zero, List.set_cons_succ]
                  refine wpAnyH_take (i := 14) (v := ?_) rfl (by kernel_rfl) (by kernel_rfl) (by kernel_rfl) (fun _ _ _ h => h) (Or.inl ⟨by kernel_rfl, ?_⟩) hHeld ?_
                  rotate_left
                  · intro w hSw
                    (try dsimp only at hSw)
                    go_split_ands
                    go_simp
                    (try with_reducible rfl)
                  try simp only [Act.put, List.getElem_toArray, List.getElem_cons_succ, List.getElem_cons_zero, List.setIfInBounds_toArray, List.set_cons_zero, List.set_cons_succ]
                  refine wpAnyH_take (i := 15) (v := ?_) rfl (by kernel_rfl) (by kernel_rfl) (by kernel_rfl) (fun _ _ _ h => h) (Or.inl ⟨by kernel_rfl, ?_⟩) hHeld ?_
                  rotate_left
                  · intro w hSw
                    (try dsimp only at hSw)
                    go_split_ands
                    go_simp
                    (try with_reducible rfl)
                  try simp only [Act.put, List.getElem_toArray, List.getElem_cons_succ, List.getElem_cons_zero, List.setIfInBounds_toArray, List.set_cons_zero, List.set_cons_succ]
                  refine wpAnyH_ready (rs := [16]) (by kernel_rfl) (by simp) ?_
                  refine AllReadyH.cons rfl (fun KK hK => ?_) AllReadyH.nil
                  clear hHeld
                  go_simp
                  refine hK.out _ _ trivial (fun hHeld => ?_)
                  clear hK KK
                  try simp only [Act.put, List.getElem_toArray, List.getElem_cons_succ, List.getElem_cons_zero, List.setIfInBounds_toArray, List.set_cons_zero, List.set_cons_succ]
                  refine wpAnyH_ready (rs := [17]) (by kernel_rfl) (by simp) ?_
                  refine AllReadyH.cons rfl (fun KK hK => ?_) AllReadyH.nil
                  clear hHeld
                  refine step_append_lies _ rfl (.tmp 75) (.tmp 91) 68 rfl w1.heap.size 75 i0 _ 2 32 Tryd.underlying68 hi0 hz0 hz1 hz2 rfl (by decide) (.slice vx al vc) al (ckL acc) (by simp [Act.eval]) (HRd.out.alloc _) ⟨w21.heap.size, 0, none⟩ 1 1 [.string K, .string D] (by simp [Act.eval]) rfl (two_new _ _ _ _) (two_one _ _) (by omega) (by unfold maxLen; omega) (by omega) (by have := X_21.out.size; simp; omega) _ rfl ?_
                  intro g1 cap1 w7 hown1 hgrow1 hat1 hlt1
                  have P1 := rck_push (w0 := w1) (B := w1.heap.size) (L := acc) (k := K) (d := D) ((show Ext w1 w21.drew from Below.drew X_21.out).alloc _) (Nat.le_refl _) (by rw [HAL.out]; exact HRd.out.alloc _) hgrow1 (by rw [HAL.out]; exact hown1)
                  rw [List.length_append, HAL.out] at P1
                  have HR7 := Lib.hid P1.1
                  have HX7 := Lib.hid P1.2.1
                  clear hown1 hgrow1 hat1 hlt1 P1
                  refine hK.out _ _ trivial (fun hHeld => ?_)
                  clear hK KK
                  try simp only [Act.put, List.getElem_toArray, List.getElem_cons_succ, List.getElem_cons_zero, List.setIfInBounds_toArray, List.set_cons_zero, List.set_cons_succ]
                  refine wpAnyH_take (i := 18) (v := ?_) rfl (by kernel_rfl) (by kernel_rfl) (by kernel_rfl) (fun _ _ _ h => h) (Or.inl ⟨by kernel_rfl, ?_⟩) hHeld ?_
                  rotate_left
                  · intro w hSw
                    (try dsimp only at hSw)
                    go_split_ands
                    go_simp
                    (try with_reducible rfl)
                  try simp only [Act.put, List.getElem_toArray, List.getElem_cons_succ, List.getElem_cons_zero, List.setIfInBounds_toArray, List.set_cons_zero, List.set_cons_succ]
                  refine wpAnyH_done (by kernel_rfl) ?_ _
                  clear hHeld
                  go_wp2_with fail
                  go_roundw
                  case rel => exact ⟨pos + 12 + n, f2, acc ++ [⟨K, D⟩], by go_num, by have := HTS.out; omega, by rw [List.length_append, HAL.out]; simp; omega, HF2, HP2, Lib.hid (by rw [List.length_append, HAL.out]; exact HR7.out), HX7⟩
                  case measure => simp [intOf]; have := HTS.out; omega
              · have qk' : kindB K.data.toList = false := by simpa using qk
                have HBB := Lib.hid (HBad.out 0 (pstep_kind Q12.out H4.out HN.out QN.out HK.out qk'))
                clear HBad HNx HP HF qk HR
                go_wp2_with fail
                refine (HVA.out _).mono ?_
                rintro e w9 ⟨rfl, rfl⟩
                go_wp2_with fail
                refine (HIK.out _).mono ?_
                rintro e w9 ⟨rfl, rfl⟩
                rw [qk']
                clear qk'
                have r0 := (HB1.out.ext HW.out).cell 0
                have s0 := (HB1.out.ext HW.out).frozen 0
                have r1 := (HB1.out.ext HW.out).cell 1
                have s1 := (HB1.out.ext HW.out).frozen 1
                have FS := Lib.hid (flt_set (x' := .int .i64 1) (y' := .int .i64 (pos : Int)) (HX1.out.trans HW.out) (Nat.le_of_eq HF_.out) (HB1.out.ext HW.out))
                go_wp2_with fail
                obtain ⟨u0, u1⟩ : _ ∧ _ := ⟨FS.out.2.cell 0, FS.out.2.cell 1⟩
                exact bodyPost_ret (v := .tuple #[.slice none 0 0, .agg #[.int .i64 1, .int .i64 (pos : Int)]]) (by simp [results, Tryd.results54, go_sem, u0, u1]) rfl ⟨FS.out.1, .inr ⟨0, pos, by decide, HBB.out, rfl⟩⟩
        · obtain rfl : pos = s.size := by omega
          have HL : Hid (readL s = .ok acc) := Lib.hid (by rw [← HP.out, parse_end (Nat.le_refl _)])
          go_wp2_with fail
          refine (fine_any _).mono ?_
          rintro e w3 ⟨rfl, h3⟩
          have HW3 := Lib.hid (HW.out.trans h3)
          have HB3 := Lib.hid (HB1.out.ext HW3.out)
          have HR3 := Lib.hid (HR.out.ext h3)
          clear h3
          have r0 := HB3.out.cell 0
          have s0 := HB3.out.frozen 0
          have r1 := HB3.out.cell 1
          have s1 := HB3.out.frozen 1
          have FS := Lib.hid (flt_set (x' := .int .i64 0) (y' := .int .i64 (-1)) (HX1.out.trans HW3.out) (Nat.le_of_eq HF_.out) HB3.out)
          obtain ⟨x, c, rfl, hC⟩ := own_cks HR3.out HZ.out (set2_far _ F (.int .i64 0) (.int .i64 (-1)))
          have HC := Lib.hid hC
          clear hC
          go_wp2_with fail
          obtain ⟨u0, u1⟩ : _ ∧ _ := ⟨FS.out.2.cell 0, FS.out.2.cell 1⟩
          exact bodyPost_ret (v := .tuple #[.slice x acc.length c, .agg #[.int .i64 0, .int .i64 (-1)]]) (by simp [results, Tryd.results54, go_sem, u0, u1]) rfl ⟨FS.out.1, .inl ⟨acc, x, c, HL.out, rfl, HC.out⟩⟩
    · have hne : (S8.toList == SG.toList) = false := by rw [ByteArray.toList_eq, ByteArray.toList_eq, HS8.out, HSGL.out]; exact beq_eq_false_iff_ne.2 qp
      have HBB : Hid (readL s = .bad 0 0) := Lib.hid (by unfold readL; rw [if_neg qp])
      clear qp
      rw [hne]
      simp only [Bool.not_false]
      clear hne
      have r0 := (HB1.out.ext X_3.out).cell 0
      have s0 := (HB1.out.ext X_3.out).frozen 0
      have r1 := (HB1.out.ext X_3.out).cell 1
      have s1 := (HB1.out.ext X_3.out).frozen 1
      have FS := Lib.hid (flt_set (x' := .int .i64 1) (y' := .int .i64 0) (HX1.out.trans X_3.out) (Nat.le_of_eq HF_.out) (HB1.out.ext X_3.out))
      go_wp2_with fail
      obtain ⟨u0, u1⟩ : _ ∧ _ := ⟨FS.out.2.cell 0, FS.out.2.cell 1⟩
      exact bodyPost_ret (v := .tuple #[.slice none 0 0, .agg #[.int .i64 1, .int .i64 0]]) (by simp [results, Tryd.results54, go_sem, u0, u1]) rfl ⟨FS.out.1, .inr ⟨0, 0, by decide, HBB.out, rfl⟩⟩
end Go.Proofs.YtkfjcgcgfdibaaaDoor
