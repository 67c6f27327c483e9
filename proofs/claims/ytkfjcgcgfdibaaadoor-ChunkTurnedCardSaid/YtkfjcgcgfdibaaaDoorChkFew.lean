/- few; chunksOf. -/
import Derived.Test.YtkfjcgcgfdibaaaDoorSame
namespace Go.Proofs.YtkfjcgcgfdibaaaDoor
open Go.RowKit
set_option maxRecDepth 100000
/-- the bytes of the first k chunks' Data -/
def sumD (L : List Ck) : Nat → Nat
  | 0 => 0
  | k + 1 => sumD L k + (match L[k]? with | some c => c.d.size | none => 0)
theorem sumD_le {L : List Ck} {B : Nat} (h : ∀ c ∈ L, c.d.size ≤ B) : ∀ k, sumD L k ≤ k * B := by
  intro k
  induction k with
  | zero => exact Nat.zero_le _
  | succ k ih =>
    rw [Nat.succ_mul]
    refine Nat.add_le_add ih ?_
    split
    · rename_i c hc
      exact h c (List.mem_of_getElem? hc)
    · exact Nat.zero_le _
theorem sumD_ge {L : List Ck} {i k : Nat} {c : Ck} (hi : i < k) (hc : L[i]? = some c) : c.d.size ≤ sumD L k := by
  induction k with
  | zero => omega
  | succ k ih =>
    simp only [sumD]
    by_cases h : i = k
    · subst h; rw [hc]; exact Nat.le_add_left _ _
    · have := ih (by omega); omega
theorem few_big (x : Option Addr) (cap : Nat) (L : List Ck) (w : World) (hx : Cks w x L) (hn : L.length ≤ maxLen) (h30 : 30 < L.length) :
    Calls Tryd.prog 47 #[.slice x L.length cap] w fun e w' => e = .returned (.bool false) ∧ w = w' := by
  have HX := Lib.hid hx
  clear hx
  unfold maxLen at hn
  obtain ⟨n, hn0⟩ : ∃ n, L.length = n := ⟨_, rfl⟩
  have HN := Lib.hid hn0
  rw [hn0] at hn h30 ⊢
  clear hn0
  have t30 : decide ((n : Int) ≤ 30) = false := decide_eq_false (by omega)
  go_enter Tryd.func47, Tryd.ntmps47
  go_wp2_with fail
  go_loop [3, 4] (fun z c => ∃ (k : Nat) (u : Int), k ≤ n ∧ c = .int .i64 k ∧ z = .int .i64 u) (fun _ c => n - (intOf c).toNat)
  case atStart => exact ⟨0, 0, by omega, rfl, rfl⟩
  case round =>
    obtain ⟨k, u, hk, rfl, rfl⟩ := hrel
    by_cases hlt : k < n
    · obtain ⟨a, rfl⟩ := HX.out.isSome (i := k) (by rw [HN.out]; exact hlt)
      obtain ⟨c, hc⟩ : ∃ c, L[k]? = some c := ⟨_, List.getElem?_eq_getElem (by rw [HN.out]; exact hlt)⟩
      obtain ⟨c0, c1⟩ := HX.out.2 a rfl k c hc
      clear c0
      go_wp2_with fail
      go_round
      case rel => exact ⟨k + 1, _, by omega, by go_num, rfl⟩
      case measure => simp [intOf]; omega
    · obtain rfl : k = n := by omega
      go_wp2_with fail
      go_ret
      exact ⟨rfl, rfl⟩
theorem few_any (x : Option Addr) (cap : Nat) (L : List Ck) (w : World) (hx : Cks w x L) (h30 : L.length ≤ 30) (hO : ∀ c ∈ L, c.d.size ≤ 140737488355328) :
    Calls Tryd.prog 47 #[.slice x L.length cap] w fun e w' => e = .returned (.bool (decide (sumD L L.length ≤ 3000))) ∧ w = w' := by
  have HX := Lib.hid hx
  have HO := Lib.hid hO
  clear hx hO
  obtain ⟨n, hn0⟩ : ∃ n, L.length = n := ⟨_, rfl⟩
  have HN := Lib.hid hn0
  rw [hn0] at h30 ⊢
  clear hn0
  have t30 : decide ((n : Int) ≤ 30) = true := decide_eq_true (by omega)
  go_enter Tryd.func47, Tryd.ntmps47
  go_wp2_with fail
  go_loop [3, 4] (fun z c => ∃ (k : Nat), k ≤ n ∧ c = .int .i64 k ∧ z = .int .i64 ((sumD L k : Nat) : Int)) (fun _ c => n - (intOf c).toNat)
  case atStart => exact ⟨0, by omega, rfl, rfl⟩
  case round =>
    obtain ⟨k, hk, rfl, rfl⟩ := hrel
    have hsl := sumD_le HO.out k
    obtain ⟨S, hS⟩ : ∃ S, sumD L k = S := ⟨_, rfl⟩
    rw [hS] at hsl ⊢
    have HS0 := Lib.hid hS
    clear hS
    by_cases hlt : k < n
    · obtain ⟨a, rfl⟩ := HX.out.isSome (i := k) (by rw [HN.out]; exact hlt)
      obtain ⟨c, hc⟩ : ∃ c, L[k]? = some c := ⟨_, List.getElem?_eq_getElem (by rw [HN.out]; exact hlt)⟩
      obtain ⟨c0, c1⟩ := HX.out.2 a rfl k c hc
      have hcd := HO.out c (List.mem_of_getElem? hc)
      have hs : sumD L (k + 1) = S + c.d.size := by rw [← HS0.out]; simp only [sumD, hc]
      have HS := Lib.hid hs
      clear c0 hs hc
      go_wp2_with fail
      go_round
      case rel => exact ⟨k + 1, by omega, by go_num, by rw [HS.out]; go_num⟩
      case measure => simp [intOf]; omega
    · obtain rfl : k = n := by omega
      go_wp2_with fail
      go_ret
      exact ⟨ret_bool (by rw [HS0.out, Bool.eq_iff_iff, decide_eq_true_iff, decide_eq_true_iff]; omega), rfl⟩
def Cat (w : World) (p : Addr) (ck cd : ByteArray) : Prop := w.cell? p = some (.string ck) ∧ w.cell? ⟨p.block, p.off + 1, none⟩ = some (.string cd)
theorem Cat.ext {w w' : World} {p : Addr} {ck cd : ByteArray} (h : Cat w p ck cd) (hE : Ext w w') : Cat w' p ck cd := by
  have hl : p.block < w.heap.size := World.block_lt_of_cell? w _ h.1
  exact ⟨(hE.keeps.cell (S := fun _ => False) hl id).trans h.1, (hE.keeps.cell (S := fun _ => False) (p := ⟨_, _, none⟩) hl id).trans h.2⟩
def OwnPost (w' : World) (L : List Ck) (e : Ending) : Prop := ∃ ox oc, e = .returned (.slice ox L.length oc) ∧ Cks w' ox L
set_option linter.unusedSimpArgs false in
set_option maxHeartbeats 4000000 in
theorem own_any (x : Option Addr) (cap : Nat) (L : List Ck) (w : World) (hx : Cks w x L) (h30 : L.length ≤ 30) :
    Calls Tryd.prog 49 #[.slice x L.length cap] w fun e w' => OwnPost w' L e ∧ Ext w w' := by
  obtain ⟨i0, hi0, hz0, hz1, hz2⟩ := info_parts ckinf
  have HX := Lib.hid hx
  clear hx
  obtain ⟨n, hn0⟩ : ∃ n, L.length = n := ⟨_, rfl⟩
  have HN := Lib.hid hn0
  rw [hn0] at h30 ⊢
  clear hn0
  go_enter Tryd.func49, Tryd.ntmps49
  go_wp2_with fail
  go_loopw [3, 4] (fun v q wr => ∃ (k : Nat), k ≤ n ∧ q = .int .i64 k ∧ Hid (Rw w wr v k (L.take k)) ∧ Hid (Ext w wr)) (fun _ q _ => n - (intOf q).toNat)
  case atStart => exact ⟨0, by omega, rfl, Lib.hid (by rw [List.take_zero]; exact World.ownsRow_nil _ _ _ _), Lib.hid (Ext.refl _)⟩
  case round =>
    obtain ⟨k, hk, rfl, HR, HW⟩ := hrel
    by_cases hlt : k < n
    · obtain ⟨a, rfl⟩ := HX.out.isSome (i := k) (by rw [HN.out]; exact hlt)
      obtain ⟨c, hc⟩ : ∃ c, L[k]? = some c := ⟨_, List.getElem?_eq_getElem (by rw [HN.out]; exact hlt)⟩
      have HCC := Lib.hid ((HX.out.ext HW.out).2 a rfl k c hc)
      have HKC := Lib.hid hc
      have hT : L.take (k + 1) = L.take k ++ [c] := by rw [List.take_add_one, hc]; rfl
      have HT := Lib.hid hT
      have htl : (L.take k).length = k := by rw [List.length_take, HN.out]; omega
      have HTL := Lib.hid htl
      clear hT htl hc
      obtain ⟨ck, cd⟩ := c
      simp only at HCC
      obtain ⟨vx, vc, rfl⟩ := own_lit HR.out
      have hc0 := HCC.out.1
      have hc1 := HCC.out.2
      go_wp2_with fail
      have X_0 := HW
      have R_0 : Hid (Rw w wr (.slice vx k vc) k (L.take k)) := HR
      have C_0 : Hid (Cat wr (a.add (k * 2)) ck cd) := HCC
      clear HW HR HCC
      refine wp_region_held_drew (S := fun w' => w'.cell? (a.add (k * 2)) = some (.string ck) ∧ w'.cell? ⟨(a.add (k * 2)).block, (a.add (k * 2)).off + 1, none⟩ = some (.string cd)) (by kernel_rfl) ⟨C_0.out.1, C_0.out.2⟩ (fun hHeld => ?_)
      clear hHeld
      refine anyHw (fun wz => Ext wr wz) (show Ext wr wr.drew from Below.drew (Ext.refl wr)) ?_
      rintro w1 h
      have X_1 := Lib.hid (X_0.out.trans h)
      have R_1 := Lib.hid (R_0.out.ext h)
      have C_1 := Lib.hid (C_0.out.ext h)
      clear h X_0 R_0 C_0
      have hHeld : w1.cell? (a.add (k * 2)) = some (.string ck) ∧ w1.cell? ⟨(a.add (k * 2)).block, (a.add (k * 2)).off + 1, none⟩ = some (.string cd) := ⟨C_1.out.1, C_1.out.2⟩
      refine wpAnyH_take (i := 0) (v := ?_) rfl (by kernel_rfl) (by kernel_rfl) (by kernel_rfl) (fun _ _ _ h => h) (Or.inl ⟨by kernel_rfl, ?_⟩) hHeld ?_
      rotate_left
      · intro w hSw
        (try dsimp only at hSw)
        go_split_ands
        go_simp
        (try with_reducible rfl)
      try simp only [Act.put, List.getElem_toArray, List.getElem_cons_succ, List.getElem_cons_zero, List.setIfInBounds_toArray, List.set_cons_zero, List.set_cons_succ]
      refine wpAnyH_take (i := 1) (v := ?_) rfl (by kernel_rfl) (by kernel_rfl) (by kernel_rfl) (fun _ _ _ h => h) (Or.inl ⟨by kernel_rfl, ?_⟩) hHeld ?_
      rotate_left
      · intro w hSw
        (try dsimp only at hSw)
        go_split_ands
        go_simp
        (try with_reducible rfl)
      try simp only [Act.put, List.getElem_toArray, List.getElem_cons_succ, List.getElem_cons_zero, List.setIfInBounds_toArray, List.set_cons_zero, List.set_cons_succ]
      refine wpAnyH_take (i := 2) (v := ?_) rfl (by kernel_rfl) (by kernel_rfl) (by kernel_rfl) (fun _ _ _ h => h) (Or.inl ⟨by kernel_rfl, ?_⟩) hHeld ?_
      rotate_left
      · intro w hSw
        (try dsimp only at hSw)
        go_split_ands
        go_simp
        (try with_reducible rfl)
      try simp only [Act.put, List.getElem_toArray, List.getElem_cons_succ, List.getElem_cons_zero, List.setIfInBounds_toArray, List.set_cons_zero, List.set_cons_succ]
      refine wpAnyH_take (i := 3) (v := ?_) rfl (by kernel_rfl) (by kernel_rfl) (by kernel_rfl) (fun _ _ _ h => h) (Or.inl ⟨by kernel_rfl, ?_⟩) hHeld ?_
      rotate_left
      · intro w hSw
        (try dsimp only at hSw)
        go_split_ands
        go_simp
        (try with_reducible rfl)
      try simp only [Act.put, List.getElem_toArray, List.getElem_cons_succ, List.getElem_cons_zero, List.setIfInBounds_toArray, List.set_cons_zero, List.set_cons_succ]
      refine wpAnyH_take (i := 4) (v := ?_) rfl (by kernel_rfl) (by kernel_rfl) (by kernel_rfl) (fun _ _ _ h => h) (Or.inl ⟨by kernel_rfl, ?_⟩) hHeld ?_
      rotate_left
      · intro w hSw
        (try dsimp only at hSw)
        go_split_ands
        go_simp
        (try with_reducible rfl)
      try simp only [Act.put, List.getElem_toArray, List.getElem_cons_succ, List.getElem_cons_zero, List.setIfInBounds_toArray, List.set_cons_zero, List.set_cons_succ]
      refine wpAnyH_take (i := 5) (v := ?_) rfl (by kernel_rfl) (by kernel_rfl) (by kernel_rfl) (fun _ _ _ h => h) (Or.inl ⟨by kernel_rfl, ?_⟩) hHeld ?_
      rotate_left
      · intro w hSw
        (try dsimp only at hSw)
        go_split_ands
        go_simp
        (try with_reducible rfl)
      try simp only [Act.put, List.getElem_toArray, List.getElem_cons_succ, List.getElem_cons_zero, List.setIfInBounds_toArray, List.set_cons_zero, List.set_cons_succ]
      refine wpAnyH_take (i := 6) (v := ?_) rfl (by kernel_rfl) (by kernel_rfl) (by kernel_rfl) (fun _ _ _ h => h) (Or.inl ⟨by kernel_rfl, ?_⟩) hHeld ?_
      rotate_left
      · intro w hSw
        (try dsimp only at hSw)
        go_split_ands
        go_simp
        (try with_reducible rfl)
      try simp only [Act.put, List.getElem_toArray, List.getElem_cons_succ, List.getElem_cons_zero, List.setIfInBounds_toArray, List.set_cons_zero, List.set_cons_succ]
      refine wpAnyH_take (i := 7) (v := ?_) rfl (by kernel_rfl) (by kernel_rfl) (by kernel_rfl) (fun _ _ _ h => h) (Or.inl ⟨by kernel_rfl, ?_⟩) hHeld ?_
      rotate_left
      · intro w hSw
        (try dsimp only at hSw)
        go_split_ands
        go_simp
        (try with_reducible rfl)
      try simp only [Act.put, List.getElem_toArray, List.getElem_cons_succ, List.getElem_cons_zero, List.setIfInBounds_toArray, List.set_cons_zero, List.set_cons_succ]
      refine wpAnyH_take (i := 8) (v := ?_) rfl (by kernel_rfl) (by kernel_rfl) (by kernel_rfl) (fun _ _ _ h => h) (Or.inl ⟨by kernel_rfl, ?_⟩) hHeld ?_
      rotate_left
      · intro w hSw
        (try dsimp only at hSw)
        go_split_ands
        go_simp
        (try with_reducible rfl)
      try simp only [Act.put, List.getElem_toArray, List.getElem_cons_succ, List.getElem_cons_zero, List.setIfInBounds_toArray, List.set_cons_zero, List.set_cons_succ]
      refine wpAnyH_take (i := 9) (v := ?_) rfl (by kernel_rfl) (by kernel_rfl) (by kernel_rfl) (fun _ _ _ h => h) (Or.inl ⟨by kernel_rfl, ?_⟩) hHeld ?_
      rotate_left
      · intro w hSw
        (try dsimp only at hSw)
        go_split_ands
        go_simp
        (try with_reducible rfl)
      try simp only [Act.put, List.getElem_toArray, List.getElem_cons_succ, List.getElem_cons_zero, List.setIfInBounds_toArray, List.set_cons_zero, List.set_cons_succ]
      refine wpAnyH_take (i := 10) (v := ?_) rfl (by kernel_rfl) (by kernel_rfl) (by kernel_rfl) (fun _ _ _ h => h) (Or.inl ⟨by kernel_rfl, ?_⟩) hHeld ?_
      rotate_left
      · intro w hSw
        (try dsimp only at hSw)
        go_split_ands
        go_simp
        (try with_reducible rfl)
      try simp only [Act.put, List.getElem_toArray, List.getElem_cons_succ, List.getElem_cons_zero, List.setIfInBounds_toArray, List.set_cons_zero, List.set_cons_succ]
      refine wpAnyH_take (i := 11) (v := ?_) rfl (by kernel_rfl) (by kernel_rfl) (by kernel_rfl) (fun _ _ _ h => h) (Or.inl ⟨by kernel_rfl, ?_⟩) hHeld ?_
      rotate_left
      · intro w hSw
        (try dsimp only at hSw)
        go_split_ands
        go_simp
        (try with_reducible rfl)
      try simp only [Act.put, List.getElem_toArray, List.getElem_cons_succ, List.getElem_cons_zero, List.setIfInBounds_toArray, List.set_cons_zero, List.set_cons_succ]
      refine wpAnyH_ready (rs := [12]) (by kernel_rfl) (by simp) ?_
      refine AllReadyH.cons rfl (fun KK hK => ?_) AllReadyH.nil
      clear hHeld
      go_simp
      have HC6 := Lib.hid (C_1.out.ext ((Ext.refl _).alloc (.cells #[.string ck, .string cd] 110)))
      refine hK.out _ _ ⟨HC6.out.1, HC6.out.2⟩ (fun hHeld => ?_)
      clear hK KK
      try simp only [Act.put, List.getElem_toArray, List.getElem_cons_succ, List.getElem_cons_zero, List.setIfInBounds_toArray, List.set_cons_zero, List.set_cons_succ]
      refine wpAnyH_ready (rs := [13]) (by kernel_rfl) (by simp) ?_
      refine AllReadyH.cons rfl (fun KK hK => ?_) AllReadyH.nil
      clear hHeld
      refine step_append_lies _ rfl (.tmp 11) (.tmp 23) 72 rfl w.heap.size 110 i0 _ 2 32 Tryd.underlying72 hi0 hz0 hz1 hz2 rfl (by decide) (.slice vx k vc) k (ckL (L.take k)) (by simp [Act.eval]) (R_1.out.alloc _) ⟨w1.heap.size, 0, none⟩ 1 1 [.string ck, .string cd] (by simp [Act.eval]) rfl (two_new _ _ _ _) (two_one _ _) (by omega) (by unfold maxLen; omega) (by omega) (by have := X_1.out.size; simp; omega) _ rfl ?_
      intro g1 cap1 w7 hown1 hgrow1 hat1 hlt1
      have P1 := ck_push (w0 := w) (L := L.take k) (k := ck) (d := cd) (X_1.out.alloc _) (by rw [HTL.out]; exact R_1.out.alloc _) hgrow1 (by rw [HTL.out]; exact hown1)
      rw [List.length_append, HTL.out, ← HT.out] at P1
      have HR7 := Lib.hid P1.1
      have HX7 := Lib.hid P1.2
      have HC7 := Lib.hid ((HX.out.ext HX7.out).2 a rfl k ⟨ck, cd⟩ HKC.out)
      clear hown1 hgrow1 hat1 hlt1 P1
      refine hK.out _ _ ⟨HC7.out.1, HC7.out.2⟩ (fun hHeld => ?_)
      clear hK KK
      try simp only [Act.put, List.getElem_toArray, List.getElem_cons_succ, List.getElem_cons_zero, List.setIfInBounds_toArray, List.set_cons_zero, List.set_cons_succ]
      refine wpAnyH_take (i := 14) (v := ?_) rfl (by kernel_rfl) (by kernel_rfl) (by kernel_rfl) (fun _ _ _ h => h) (Or.inl ⟨by kernel_rfl, ?_⟩) hHeld ?_
      rotate_left
      · intro w hSw
        (try dsimp only at hSw)
        go_split_ands
        go_simp
        (try with_reducible rfl)
      try simp only [Act.put, List.getElem_toArray, List.getElem_cons_succ, List.getElem_cons_zero, List.setIfInBounds_toArray, List.set_cons_zero, List.set_cons_succ]
      refine wpAnyH_done (by kernel_rfl) ?_ _
      clear hHeld
      go_wp2_with fail
      go_roundw
      case rel => exact ⟨k + 1, by omega, by go_num, HR7, HX7⟩
      case measure => simp [intOf]; omega
    · obtain rfl : k = n := by omega
      have h := HR.out
      rw [List.take_of_length_le (by rw [HN.out]; omega)] at h
      unfold Rw at h
      rw [← HN.out] at h
      obtain ⟨ox, oc, rfl, hC⟩ := Cks.of_own h
      have HC := Lib.hid hC
      clear h
      clear hC
      go_wp2_with fail
      go_ret
      exact ⟨⟨ox, oc, rfl, HC.out⟩, HW.out⟩
end Go.Proofs.YtkfjcgcgfdibaaaDoor
