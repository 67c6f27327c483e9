/-
  match.finder: put.
-/
import Derived.Test.YtdeiolagnheihaaDoorMatchLongG1
import Derived.BigQuiet
import Derived.Deep.RegionHeld3
namespace Go.Proofs.YtdeiolagnheihaaDoor
open Go.RowKit
set_option maxRecDepth 100000
theorem set3_all' {w wr : World} {b : Nat} {x y z x' y' z' : Value} (hE : Ext w wr) (hT : w.heap.size ≤ b) (hB : Bk wr b #[x, y, z]) :
    Ext w (((wr.setCell ⟨b, 0, none⟩ x').setCell ⟨b, 1, none⟩ y').setCell ⟨b, 2, none⟩ z') ∧ Bk (((wr.setCell ⟨b, 0, none⟩ x').setCell ⟨b, 1, none⟩ y').setCell ⟨b, 2, none⟩ z') b #[x', y', z'] ∧ Keeps (fun k => k = b) wr (((wr.setCell ⟨b, 0, none⟩ x').setCell ⟨b, 1, none⟩ y').setCell ⟨b, 2, none⟩ z') :=
  ⟨Below.setCell (Below.setCell (Below.setCell hE (by exact hT) _) (by exact hT) _) (by exact hT) _, ((hB.set_ 0 x').set_ 1 y').set_ 2 z', (((Keeps.refl (fun k => k = b) wr).setCell (.inl rfl) _).setCell (.inl rfl) _).setCell (.inl rfl) _⟩
theorem put_no (B mp ab a q : Nat) (s : ByteArray) (wd tries : Int) (w : World) (h : FSt w B mp ab s wd tries q) (ha : s.size < a + 3) (hs : s.size ≤ 300000) (hl : a ≤ s.size) :
    Calls Tryd.prog 58 #[.pointer (some ⟨B, 0, none⟩), .int .i64 (a : Int)] w fun e w' => e = .returned (.tuple #[]) ∧ w' = w := by
  have c0 := h.bk.cell 0
  have t : (s.size : Int) < (a : Int) + 3 := by omega
  clear h
  go_enter Tryd.func58, Tryd.ntmps58
  go_wp2_with fail
  exact bodyPost_ret (v := .tuple #[]) (by simp [results, Tryd.results58, go_sem]) rfl ⟨rfl, rfl⟩
set_option linter.unusedSimpArgs false in
set_option maxHeartbeats 4000000 in
theorem put_yes (B mp ab a : Nat) (s : ByteArray) (wd tries : Int) (w : World) (h : FSt w B mp ab s wd tries a) (ha : a + 3 ≤ s.size) (hs : s.size ≤ 300000) :
    Calls Tryd.prog 58 #[.pointer (some ⟨B, 0, none⟩), .int .i64 (a : Int)] w fun e w' => e = .returned (.tuple #[]) ∧ FSt w' B mp ab s wd tries (a + 1) ∧ Keeps (fun k => k = mp ∨ k = ab) w w' := by
  have HF := Lib.hid h
  have HB0 := Lib.hid (And.intro h.bk.lt (And.intro h.mm.lt h.al))
  have c0 := h.bk.cell 0
  have t : ¬ (s.size : Int) < (a : Int) + 3 := by omega
  have h0 : a < s.size := by omega
  clear h
  obtain ⟨A1, hA1⟩ : ∃ A, a + 1 = A := ⟨_, rfl⟩
  obtain ⟨A2, hA2⟩ : ∃ A, a + 2 = A := ⟨_, rfl⟩
  have d1 : (a : Int) + 1 = (A1 : Int) := by omega
  have d2 : (a : Int) + 2 = (A2 : Int) := by omega
  have h1 : A1 < s.size := by omega
  have h2 : A2 < s.size := by omega
  obtain ⟨x, hx⟩ : ∃ z, (s[a]'h0).toNat = z := ⟨_, rfl⟩
  have HBx : Hid (byt s a = x) := Lib.hid ((byt_at s a h0).trans hx)
  have hxI : (((s[a]'h0).toNat : Nat) : Int) = (x : Int) := by rw [hx]
  have hxl : x < 256 := by rw [← hx]; exact UInt8.toNat_lt _
  clear hx
  obtain ⟨y, hy⟩ : ∃ z, (s[A1]'h1).toNat = z := ⟨_, rfl⟩
  have HBy : Hid (byt s A1 = y) := Lib.hid ((byt_at s A1 h1).trans hy)
  have hyI : (((s[A1]'h1).toNat : Nat) : Int) = (y : Int) := by rw [hy]
  have hyl : y < 256 := by rw [← hy]; exact UInt8.toNat_lt _
  clear hy
  obtain ⟨z, hz⟩ : ∃ z, (s[A2]'h2).toNat = z := ⟨_, rfl⟩
  have HBz : Hid (byt s A2 = z) := Lib.hid ((byt_at s A2 h2).trans hz)
  have hzI : (((s[A2]'h2).toNat : Nat) : Int) = (z : Int) := by rw [hz]
  have hzl : z < 256 := by rw [← hz]; exact UInt8.toNat_lt _
  clear hz
  have HA := Lib.hid (And.intro hA1 hA2)
  clear hA1 hA2
  go_enter Tryd.func58, Tryd.ntmps58
  go_wp2_with fail
  obtain ⟨wa1, wa2⟩ : IntKind.i64.wrap (A1 : Int) = (A1 : Int) ∧ IntKind.i64.wrap (A2 : Int) = (A2 : Int) := ⟨wrapi (by omega) (by omega), wrapi (by omega) (by omega)⟩
  have S_0 := Lib.hid (HF.out)
  have X_0 := Lib.hid (Ext.refl w)
  clear HF
  refine wp_region_held_drew (S := fun w' => w'.cell? ⟨B, 0, none⟩ = some (.string s)) (by kernel_rfl) (S_0.out.bk.cell 0) (fun hHeld => ?_)
  clear hHeld
  refine anyH_world (fun wz => Ext w wz) (show Ext w w.drew from Below.drew (Ext.refl w)) ?_
  rintro w1 h
  have S_1 := Lib.hid (S_0.out.ext h)
  have X_1 := Lib.hid (X_0.out.trans h)
  clear h S_0 X_0
  have hHeld : w1.cell? ⟨B, 0, none⟩ = some (.string s) := (S_1.out.bk.cell 0)
  refine wpAnyH_take (i := 0) (v := ?_) rfl (by kernel_rfl) (by kernel_rfl) (by kernel_rfl) (fun _ _ _ h => h) (Or.inl ⟨by kernel_rfl, ?_⟩) hHeld ?_
  rotate_left
  · intro w hSw
    (try dsimp only at hSw)
    go_split_ands
    go_simp
    (try with_reducible rfl)
  try simp only [Act.put, List.getElem_toArray, List.getElem_cons_succ, List.getElem_cons_zero, List.setIfInBounds_toArray, List.set_cons_zero, List.set_cons_succ]
  refine wpAnyH_take (i := 1) (v := ?_) rfl (by kernel_rfl) (by kernel_rfl) (by kernel_rfl) (fun _ _ _ h => h) (Or.inl ⟨by kernel_rfl, ?_⟩) hHeld ?_
  rotate_left
  · intro w hSw
    (try dsimp only at hSw)
    go_split_ands
    go_simp
    (try with_reducible rfl)
  try simp only [Act.put, List.getElem_toArray, List.getElem_cons_succ, List.getElem_cons_zero, List.setIfInBounds_toArray, List.set_cons_zero, List.set_cons_succ]
  refine wpAnyH_take (i := 2) (v := ?_) rfl (by kernel_rfl) (by kernel_rfl) (by kernel_rfl) (fun _ _ _ h => h) (Or.inl ⟨by kernel_rfl, ?_⟩) hHeld ?_
  rotate_left
  · intro w hSw
    (try dsimp only at hSw)
    go_split_ands
    go_simp
    (try with_reducible rfl)
  try simp only [Act.put, List.getElem_toArray, List.getElem_cons_succ, List.getElem_cons_zero, List.setIfInBounds_toArray, List.set_cons_zero, List.set_cons_succ]
  refine wpAnyH_take (i := 3) (v := ?_) rfl (by kernel_rfl) (by kernel_rfl) (by kernel_rfl) (fun _ _ _ h => h) (Or.inl ⟨by kernel_rfl, ?_⟩) hHeld ?_
  rotate_left
  · intro w hSw
    (try dsimp only at hSw)
    go_split_ands
    go_simp
    (try with_reducible rfl)
  try simp only [Act.put, List.getElem_toArray, List.getElem_cons_succ, List.getElem_cons_zero, List.setIfInBounds_toArray, List.set_cons_zero, List.set_cons_succ]
  refine wpAnyH_take (i := 4) (v := ?_) rfl (by kernel_rfl) (by kernel_rfl) (by kernel_rfl) (fun _ _ _ h => h) (Or.inl ⟨by kernel_rfl, ?_⟩) hHeld ?_
  rotate_left
  · intro w hSw
    (try dsimp only at hSw)
    go_split_ands
    go_simp
    (try with_reducible rfl)
  try simp only [Act.put, List.getElem_toArray, List.getElem_cons_succ, List.getElem_cons_zero, List.setIfInBounds_toArray, List.set_cons_zero, List.set_cons_succ]
  refine wpAnyH_take (i := 5) (v := ?_) rfl (by kernel_rfl) (by kernel_rfl) (by kernel_rfl) (fun _ _ _ h => h) (Or.inl ⟨by kernel_rfl, ?_⟩) hHeld ?_
  rotate_left
  · intro w hSw
    (try dsimp only at hSw)
    go_split_ands
    go_simp
    (try with_reducible rfl)
  try simp only [Act.put, List.getElem_toArray, List.getElem_cons_succ, List.getElem_cons_zero, List.setIfInBounds_toArray, List.set_cons_zero, List.set_cons_succ]
  refine wpAnyH_take (i := 6) (v := ?_) rfl (by kernel_rfl) (by kernel_rfl) (by kernel_rfl) (fun _ _ _ h => h) (Or.inl ⟨by kernel_rfl, ?_⟩) hHeld ?_
  rotate_left
  · intro w hSw
    (try dsimp only at hSw)
    go_split_ands
    go_simp
    (try with_reducible rfl)
  try simp only [Act.put, List.getElem_toArray, List.getElem_cons_succ, List.getElem_cons_zero, List.setIfInBounds_toArray, List.set_cons_zero, List.set_cons_succ]
  refine wpAnyH_take (i := 7) (v := ?_) rfl (by kernel_rfl) (by kernel_rfl) (by kernel_rfl) (fun _ _ _ h => h) (Or.inl ⟨by kernel_rfl, ?_⟩) hHeld ?_
  rotate_left
  · intro w hSw
    (try dsimp only at hSw)
    go_split_ands
    go_simp
    (try with_reducible rfl)
  try simp only [Act.put, List.getElem_toArray, List.getElem_cons_succ, List.getElem_cons_zero, List.setIfInBounds_toArray, List.set_cons_zero, List.set_cons_succ]
  refine wpAnyH_take (i := 8) (v := ?_) rfl (by kernel_rfl) (by kernel_rfl) (by kernel_rfl) (fun _ _ _ h => h) (Or.inl ⟨by kernel_rfl, ?_⟩) hHeld ?_
  rotate_left
  · intro w hSw
    (try dsimp only at hSw)
    go_split_ands
    go_simp
    (try with_reducible rfl)
  try simp only [Act.put, List.getElem_toArray, List.getElem_cons_succ, List.getElem_cons_zero, List.setIfInBounds_toArray, List.set_cons_zero, List.set_cons_succ]
  refine wpAnyH_take (i := 9) (v := ?_) rfl (by kernel_rfl) (by kernel_rfl) (by kernel_rfl) (fun _ _ _ h => h) (Or.inl ⟨by kernel_rfl, ?_⟩) hHeld ?_
  rotate_left
  · intro w hSw
    (try dsimp only at hSw)
    go_split_ands
    go_simp
    (try with_reducible rfl)
  try simp only [Act.put, List.getElem_toArray, List.getElem_cons_succ, List.getElem_cons_zero, List.setIfInBounds_toArray, List.set_cons_zero, List.set_cons_succ]
  refine wpAnyH_take (i := 10) (v := ?_) rfl (by kernel_rfl) (by kernel_rfl) (by kernel_rfl) (fun _ _ _ h => h) (Or.inl ⟨by kernel_rfl, ?_⟩) hHeld ?_
  rotate_left
  · intro w hSw
    (try dsimp only at hSw)
    go_split_ands
    go_simp
    (try with_reducible rfl)
  try simp only [Act.put, List.getElem_toArray, List.getElem_cons_succ, List.getElem_cons_zero, List.setIfInBounds_toArray, List.set_cons_zero, List.set_cons_succ]
  refine wpAnyH_take (i := 11) (v := ?_) rfl (by kernel_rfl) (by kernel_rfl) (by kernel_rfl) (fun _ _ _ h => h) (Or.inl ⟨by kernel_rfl, ?_⟩) hHeld ?_
  rotate_left
  · intro w hSw
    (try dsimp only at hSw)
    go_split_ands
    go_simp
    (try with_reducible rfl)
  try simp only [Act.put, List.getElem_toArray, List.getElem_cons_succ, List.getElem_cons_zero, List.setIfInBounds_toArray, List.set_cons_zero, List.set_cons_succ]
  refine wpAnyH_take (i := 12) (v := ?_) rfl (by kernel_rfl) (by kernel_rfl) (by kernel_rfl) (fun _ _ _ h => h) (Or.inl ⟨by kernel_rfl, ?_⟩) hHeld ?_
  rotate_left
  · intro w hSw
    (try dsimp only at hSw)
    go_split_ands
    go_simp
    (try with_reducible rfl)
  try simp only [Act.put, List.getElem_toArray, List.getElem_cons_succ, List.getElem_cons_zero, List.setIfInBounds_toArray, List.set_cons_zero, List.set_cons_succ]
  refine wpAnyH_take (i := 13) (v := ?_) rfl (by kernel_rfl) (by kernel_rfl) (by kernel_rfl) (fun _ _ _ h => h) (Or.inl ⟨by kernel_rfl, ?_⟩) hHeld ?_
  rotate_left
  · intro w hSw
    (try dsimp only at hSw)
    go_split_ands
    go_simp
    (try with_reducible rfl)
  try simp only [Act.put, List.getElem_toArray, List.getElem_cons_succ, List.getElem_cons_zero, List.setIfInBounds_toArray, List.set_cons_zero, List.set_cons_succ]
  refine wpAnyH_take (i := 14) (v := ?_) rfl (by kernel_rfl) (by kernel_rfl) (by kernel_rfl) (fun _ _ _ h => h) (Or.inl ⟨by kernel_rfl, ?_⟩) hHeld ?_
  rotate_left
  · intro w hSw
    (try dsimp only at hSw)
    go_split_ands
    go_simp
    (try with_reducible rfl)
  try simp only [Act.put, List.getElem_toArray, List.getElem_cons_succ, List.getElem_cons_zero, List.setIfInBounds_toArray, List.set_cons_zero, List.set_cons_succ]
  refine wpAnyH_take (i := 15) (v := ?_) rfl (by kernel_rfl) (by kernel_rfl) (by kernel_rfl) (fun _ _ _ h => h) (Or.inl ⟨by kernel_rfl, ?_⟩) hHeld ?_
  rotate_left
  · intro w hSw
    (try dsimp only at hSw)
    go_split_ands
    go_simp
    (try with_reducible rfl)
  try simp only [Act.put, List.getElem_toArray, List.getElem_cons_succ, List.getElem_cons_zero, List.setIfInBounds_toArray, List.set_cons_zero, List.set_cons_succ]
  refine wpAnyH_take (i := 16) (v := ?_) rfl (by kernel_rfl) (by kernel_rfl) (by kernel_rfl) (fun _ _ _ h => h) (Or.inl ⟨by kernel_rfl, ?_⟩) hHeld ?_
  rotate_left
  · intro w hSw
    (try dsimp only at hSw)
    go_split_ands
    go_simp
    (try with_reducible rfl)
  try simp only [Act.put, List.getElem_toArray, List.getElem_cons_succ, List.getElem_cons_zero, List.setIfInBounds_toArray, List.set_cons_zero, List.set_cons_succ]
  refine wpAnyH_take (i := 17) (v := ?_) rfl (by kernel_rfl) (by kernel_rfl) (by kernel_rfl) (fun _ _ _ h => h) (Or.inl ⟨by kernel_rfl, ?_⟩) hHeld ?_
  rotate_left
  · intro w hSw
    (try dsimp only at hSw)
    go_split_ands
    go_simp
    (try with_reducible rfl)
  try simp only [Act.put, List.getElem_toArray, List.getElem_cons_succ, List.getElem_cons_zero, List.setIfInBounds_toArray, List.set_cons_zero, List.set_cons_succ]
  refine wpAnyH_take (i := 18) (v := ?_) rfl (by kernel_rfl) (by kernel_rfl) (by kernel_rfl) (fun _ _ _ h => h) (Or.inl ⟨by kernel_rfl, ?_⟩) hHeld ?_
  rotate_left
  · intro w hSw
    (try dsimp only at hSw)
    go_split_ands
    go_simp
    (try with_reducible rfl)
  try simp only [Act.put, List.getElem_toArray, List.getElem_cons_succ, List.getElem_cons_zero, List.setIfInBounds_toArray, List.set_cons_zero, List.set_cons_succ]
  refine wpAnyH_take (i := 19) (v := ?_) rfl (by kernel_rfl) (by kernel_rfl) (by kernel_rfl) (fun _ _ _ h => h) (Or.inl ⟨by kernel_rfl, ?_⟩) hHeld ?_
  rotate_left
  · intro w hSw
    (try dsimp only at hSw)
    go_split_ands
    go_simp
    (try with_reducible rfl)
  try simp only [Act.put, List.getElem_toArray, List.getElem_cons_succ, List.getElem_cons_zero, List.setIfInBounds_toArray, List.set_cons_zero, List.set_cons_succ]
  refine wpAnyH_take (i := 20) (v := ?_) rfl (by kernel_rfl) (by kernel_rfl) (by kernel_rfl) (fun _ _ _ h => h) (Or.inl ⟨by kernel_rfl, ?_⟩) hHeld ?_
  rotate_left
  · intro w hSw
    (try dsimp only at hSw)
    go_split_ands
    go_simp
    (try with_reducible rfl)
  try simp only [Act.put, List.getElem_toArray, List.getElem_cons_succ, List.getElem_cons_zero, List.setIfInBounds_toArray, List.set_cons_zero, List.set_cons_succ]
  refine wpAnyH_ready (rs := [21]) (by kernel_rfl) (by simp) ?_
  refine AllReadyH.cons rfl (fun KK hK => ?_) AllReadyH.nil
  clear hHeld
  go_simp
  refine hK.out _ _ ((S_1.out.ext (Ext.alloc (Ext.refl w1) _)).bk.cell 0) (fun hHeld => ?_)
  clear hK KK hHeld
  try simp only [Act.put, List.getElem_toArray, List.getElem_cons_succ, List.getElem_cons_zero, List.setIfInBounds_toArray, List.set_cons_zero, List.set_cons_succ]
  have GE_K := Lib.hid X_1.out.size
  refine anyH_world (fun wz => Ext w1 wz ∧ Bk wz w1.heap.size #[.int .u8 0, .int .u8 0, .int .u8 0]) ⟨Ext.alloc (Ext.refl _) _, Bk.at rfl⟩ ?_
  rintro w2 ⟨h, hB⟩
  have S_2 := Lib.hid (S_1.out.ext h)
  have X_2 := Lib.hid (X_1.out.trans h)
  clear h S_1 X_1
  have K_2 := Lib.hid (hB)
  clear hB
  have hHeld : w2.cell? ⟨B, 0, none⟩ = some (.string s) := (S_2.out.bk.cell 0)
  refine wpAnyH_ready (rs := [22]) (by kernel_rfl) (by simp) ?_
  refine AllReadyH.cons rfl (fun KK hK => ?_) AllReadyH.nil
  clear hHeld
  have t0 := K_2.out.cell 0
  have f0 := K_2.out.frozen 0
  have t1 := K_2.out.cell 1
  have f1 := K_2.out.frozen 1
  have t2 := K_2.out.cell 2
  have f2 := K_2.out.frozen 2
  have SF := set3_all' (x' := .int .u8 (x : Int)) (y' := .int .u8 (y : Int)) (z' := .int .u8 (z : Int)) X_2.out GE_K.out K_2.out
  have SFH := Lib.hid SF
  clear SF
  go_simp
  clear t0 t1 t2 f0 f1 f2
  refine hK.out _ _ ((S_2.out.keeps SFH.out.2.2 (fun e => by have := GE_K.out; have := HB0.out; omega) (fun e => by have := GE_K.out; have := HB0.out; omega) (fun e => by have := GE_K.out; have := HB0.out; omega)).bk.cell 0) (fun hHeld => ?_)
  clear hK KK hHeld
  try simp only [Act.put, List.getElem_toArray, List.getElem_cons_succ, List.getElem_cons_zero, List.setIfInBounds_toArray, List.set_cons_zero, List.set_cons_succ]
  refine anyH_world (fun wz => FSt wz B mp ab s wd tries a ∧ Ext w wz ∧ Bk wz (w1.heap.size) #[.int .u8 (x : Int), .int .u8 (y : Int), .int .u8 (z : Int)]) ⟨S_2.out.keeps SFH.out.2.2 (fun e => by have := GE_K.out; have := HB0.out; omega) (fun e => by have := GE_K.out; have := HB0.out; omega) (fun e => by have := GE_K.out; have := HB0.out; omega), SFH.out.1, SFH.out.2.1⟩ ?_
  rintro v9 ⟨hS, hX, hKb⟩
  have S_9 := Lib.hid hS
  have X_9 := Lib.hid hX
  have K_9 := Lib.hid hKb
  clear hS hX hKb SFH S_2 X_2 K_2
  have hHeld : v9.cell? ⟨B, 0, none⟩ = some (.string s) := S_9.out.bk.cell 0
  refine wpAnyH_done (by kernel_rfl) ?_ _
  clear hHeld
  obtain ⟨kB, hkB⟩ : ∃ z, w1.heap.size = z := ⟨_, rfl⟩
  rw [hkB] at K_9 ⊢
  have HKB : Hid (B ≠ kB ∧ mp ≠ kB ∧ ab ≠ kB) := Lib.hid (by have := HB0.out; have := GE_K.out; omega)
  clear hkB GE_K wa1 wa2 c0 t d1 d2
  obtain ⟨u, hu, hfu, _⟩ := S_9.out.ah a h0
  have k3 := S_9.out.bk.cell 3
  have SA := Lib.hid (S_9.out.setA (Nat.le_refl a) h0 (-1))
  have KA := Lib.hid (K_9.out.far (p := ⟨ab, a, none⟩) (fun e => HKB.out.2.2 e.symm) (.int .i64 (-1)))
  go_wp2_with fail
  refine wp_world (fun wz => FSt wz B mp ab s wd tries a ∧ wz.cell? ⟨ab, a, none⟩ = some (.int .i64 (-1)) ∧ Keeps (fun k => k = mp ∨ k = ab) v9 wz ∧ Bk wz kB #[.int .u8 (x : Int), .int .u8 (y : Int), .int .u8 (z : Int)]) ⟨SA.out.1, SA.out.2.1, SA.out.2.2, KA.out⟩ ?_
  rintro u1 ⟨q1, q2, q3, q4⟩
  have F1 := Lib.hid q1
  have C1 := Lib.hid q2
  have P1 := Lib.hid ((Ext.keeps X_9.out).trans q3 (fun _ _ e => e) : Keeps (fun k => k = mp ∨ k = ab) w u1)
  have K1 := Lib.hid q4
  clear q1 q2 q3 q4 SA KA hu hfu k3 S_9 X_9 K_9
  have k2 := F1.out.bk.cell 2
  have b0 := K1.out.cell 0
  have b1 := K1.out.cell 1
  have b2 := K1.out.cell 2
  have lk := True.intro
  have HPO : Hid (prO s a = Mt.prv (byt s) x y z a) := Lib.hid (by unfold prO; rw [HA.out.1, HA.out.2, HBx.out, HBy.out, HBz.out])
  obtain ⟨r, hr⟩ : ∃ r, Mt.prv (byt s) x y z a = r := ⟨_, rfl⟩
  have HR := Lib.hid hr
  rw [hr] at HPO
  clear hr
  go_wp2_with fail
  have S_20 := Lib.hid ((FC.mk F1.out C1.out))
  have K_20 := Lib.hid (K1.out)
  have P_20 := Lib.hid ((show KP mp ab w u1 from P1.out))
  clear F1 C1 P1
  clear k2 b0 b1 b2 lk
  refine wp_region_held_drew (S := fun w' => w'.cell? ⟨B, 2, none⟩ = some (.map (some mp)) ∧ w'.cell? ⟨kB, 0, none⟩ = some (.int .u8 (x : Int)) ∧ w'.cell? ⟨kB, 1, none⟩ = some (.int .u8 (y : Int)) ∧ w'.cell? ⟨kB, 2, none⟩ = some (.int .u8 (z : Int))) (by kernel_rfl) ⟨S_20.out.st.bk.cell 2, K_20.out.cell 0, K_20.out.cell 1, K_20.out.cell 2⟩ (fun hHeld => ?_)
  clear hHeld
  refine anyH_world (fun wz => Ext u1 wz) (show Ext u1 u1.drew from Below.drew (Ext.refl u1)) ?_
  rintro w21 h
  have S_21 := Lib.hid (S_20.out.ext h)
  have K_21 := Lib.hid (K_20.out.ext h)
  have P_21 := Lib.hid (P_20.out.trans h)
  clear h S_20 K_20 P_20
  have hHeld : w21.cell? ⟨B, 2, none⟩ = some (.map (some mp)) ∧ w21.cell? ⟨kB, 0, none⟩ = some (.int .u8 (x : Int)) ∧ w21.cell? ⟨kB, 1, none⟩ = some (.int .u8 (y : Int)) ∧ w21.cell? ⟨kB, 2, none⟩ = some (.int .u8 (z : Int)) := ⟨S_21.out.st.bk.cell 2, K_21.out.cell 0, K_21.out.cell 1, K_21.out.cell 2⟩
  refine wpAnyH_take (i := 0) (v := ?_) rfl (by kernel_rfl) (by kernel_rfl) (by kernel_rfl) (fun _ _ _ h => h) (Or.inl ⟨by kernel_rfl, ?_⟩) hHeld ?_
  rotate_left
  · intro w hSw
    (try dsimp only at hSw)
    go_split_ands
    go_simp
    (try with_reducible rfl)
  try simp only [Act.put, List.getElem_toArray, List.getElem_cons_succ, List.getElem_cons_zero, List.setIfInBounds_toArray, List.set_cons_zero, List.set_cons_succ]
  refine wpAnyH_take (i := 1) (v := ?_) rfl (by kernel_rfl) (by kernel_rfl) (by kernel_rfl) (fun _ _ _ h => h) (Or.inl ⟨by kernel_rfl, ?_⟩) hHeld ?_
  rotate_left
  · intro w hSw
    (try dsimp only at hSw)
    go_split_ands
    go_simp
    (try with_reducible rfl)
  try simp only [Act.put, List.getElem_toArray, List.getElem_cons_succ, List.getElem_cons_zero, List.setIfInBounds_toArray, List.set_cons_zero, List.set_cons_succ]
  refine wpAnyH_take (i := 2) (v := ?_) rfl (by kernel_rfl) (by kernel_rfl) (by kernel_rfl) (fun _ _ _ h => h) (Or.inl ⟨by kernel_rfl, ?_⟩) hHeld ?_
  rotate_left
  · intro w hSw
    (try dsimp only at hSw)
    go_split_ands
    go_simp
    (try with_reducible rfl)
  try simp only [Act.put, List.getElem_toArray, List.getElem_cons_succ, List.getElem_cons_zero, List.setIfInBounds_toArray, List.set_cons_zero, List.set_cons_succ]
  refine wpAnyH_take (i := 3) (v := ?_) rfl (by kernel_rfl) (by kernel_rfl) (by kernel_rfl) (fun _ _ _ h => h) (Or.inl ⟨by kernel_rfl, ?_⟩) hHeld ?_
  rotate_left
  · intro w hSw
    (try dsimp only at hSw)
    go_split_ands
    go_simp
    (try with_reducible rfl)
  try simp only [Act.put, List.getElem_toArray, List.getElem_cons_succ, List.getElem_cons_zero, List.setIfInBounds_toArray, List.set_cons_zero, List.set_cons_succ]
  refine wpAnyH_take (i := 4) (v := ?_) rfl (by kernel_rfl) (by kernel_rfl) (by kernel_rfl) (fun _ _ _ h => h) (Or.inl ⟨by kernel_rfl, ?_⟩) hHeld ?_
  rotate_left
  · intro w hSw
    (try dsimp only at hSw)
    go_split_ands
    go_simp
    (try with_reducible rfl)
  try simp only [Act.put, List.getElem_toArray, List.getElem_cons_succ, List.getElem_cons_zero, List.setIfInBounds_toArray, List.set_cons_zero, List.set_cons_succ]
  refine wpAnyH_ready (rs := [5]) (by kernel_rfl) (by simp) ?_
  refine AllReadyH.cons rfl (fun KK hK => ?_) AllReadyH.nil
  clear hHeld
  have t0 := S_21.out.st.mm.look hxl hyl hzl
  unfold kb at t0
  rw [HR.out] at t0
  go_simp
  clear t0
  refine hK.out _ _ ⟨S_21.out.st.bk.cell 2, K_21.out.cell 0, K_21.out.cell 1, K_21.out.cell 2⟩ (fun hHeld => ?_)
  clear hK KK
  try simp only [Act.put, List.getElem_toArray, List.getElem_cons_succ, List.getElem_cons_zero, List.setIfInBounds_toArray, List.set_cons_zero, List.set_cons_succ]
  refine wpAnyH_take (i := 6) (v := ?_) rfl (by kernel_rfl) (by kernel_rfl) (by kernel_rfl) (fun _ _ _ h => h) (Or.inl ⟨by kernel_rfl, ?_⟩) hHeld ?_
  rotate_left
  · intro w hSw
    (try dsimp only at hSw)
    go_split_ands
    go_simp
    (try with_reducible rfl)
  try simp only [Act.put, List.getElem_toArray, List.getElem_cons_succ, List.getElem_cons_zero, List.setIfInBounds_toArray, List.set_cons_zero, List.set_cons_succ]
  refine wpAnyH_take (i := 7) (v := ?_) rfl (by kernel_rfl) (by kernel_rfl) (by kernel_rfl) (fun _ _ _ h => h) (Or.inl ⟨by kernel_rfl, ?_⟩) hHeld ?_
  rotate_left
  · intro w hSw
    (try dsimp only at hSw)
    go_split_ands
    go_simp
    (try with_reducible rfl)
  try simp only [Act.put, List.getElem_toArray, List.getElem_cons_succ, List.getElem_cons_zero, List.setIfInBounds_toArray, List.set_cons_zero, List.set_cons_succ]
  refine wpAnyH_take (i := 8) (v := ?_) rfl (by kernel_rfl) (by kernel_rfl) (by kernel_rfl) (fun _ _ _ h => h) (Or.inl ⟨by kernel_rfl, ?_⟩) hHeld ?_
  rotate_left
  · intro w hSw
    (try dsimp only at hSw)
    go_split_ands
    go_simp
    (try with_reducible rfl)
  try simp only [Act.put, List.getElem_toArray, List.getElem_cons_succ, List.getElem_cons_zero, List.setIfInBounds_toArray, List.set_cons_zero, List.set_cons_succ]
  refine wpAnyH_take (i := 9) (v := ?_) rfl (by kernel_rfl) (by kernel_rfl) (by kernel_rfl) (fun _ _ _ h => h) (Or.inl ⟨by kernel_rfl, ?_⟩) hHeld ?_
  rotate_left
  · intro w hSw
    (try dsimp only at hSw)
    go_split_ands
    go_simp
    (try with_reducible rfl)
  try simp only [Act.put, List.getElem_toArray, List.getElem_cons_succ, List.getElem_cons_zero, List.setIfInBounds_toArray, List.set_cons_zero, List.set_cons_succ]
  refine wpAnyH_take (i := 10) (v := ?_) rfl (by kernel_rfl) (by kernel_rfl) (by kernel_rfl) (fun _ _ _ h => h) (Or.inl ⟨by kernel_rfl, ?_⟩) hHeld ?_
  rotate_left
  · intro w hSw
    (try dsimp only at hSw)
    go_split_ands
    go_simp
    (try with_reducible rfl)
  try simp only [Act.put, List.getElem_toArray, List.getElem_cons_succ, List.getElem_cons_zero, List.setIfInBounds_toArray, List.set_cons_zero, List.set_cons_succ]
  refine wpAnyH_done (by kernel_rfl) ?_ _
  clear hHeld
  cases r with
  | none =>
    go_wp2_with fail
    refine wp_region_held_drew (S := fun w' => w'.cell? ⟨B, 2, none⟩ = some (.map (some mp)) ∧ w'.cell? ⟨kB, 0, none⟩ = some (.int .u8 (x : Int)) ∧ w'.cell? ⟨kB, 1, none⟩ = some (.int .u8 (y : Int)) ∧ w'.cell? ⟨kB, 2, none⟩ = some (.int .u8 (z : Int))) (by kernel_rfl) ⟨S_21.out.st.bk.cell 2, K_21.out.cell 0, K_21.out.cell 1, K_21.out.cell 2⟩ (fun hHeld => ?_)
    clear hHeld
    refine anyH_world (fun wz => Ext w21 wz) (show Ext w21 w21.drew from Below.drew (Ext.refl w21)) ?_
    rintro w22 h
    have S_22 := Lib.hid (S_21.out.ext h)
    have K_22 := Lib.hid (K_21.out.ext h)
    have P_22 := Lib.hid (P_21.out.trans h)
    clear h S_21 K_21 P_21
    have hHeld : w22.cell? ⟨B, 2, none⟩ = some (.map (some mp)) ∧ w22.cell? ⟨kB, 0, none⟩ = some (.int .u8 (x : Int)) ∧ w22.cell? ⟨kB, 1, none⟩ = some (.int .u8 (y : Int)) ∧ w22.cell? ⟨kB, 2, none⟩ = some (.int .u8 (z : Int)) := ⟨S_22.out.st.bk.cell 2, K_22.out.cell 0, K_22.out.cell 1, K_22.out.cell 2⟩
    refine wpAnyH_take (i := 0) (v := ?_) rfl (by kernel_rfl) (by kernel_rfl) (by kernel_rfl) (fun _ _ _ h => h) (Or.inl ⟨by kernel_rfl, ?_⟩) hHeld ?_
    rotate_left
    · intro w hSw
      (try dsimp only at hSw)
      go_split_ands
      go_simp
      (try with_reducible rfl)
    try simp only [Act.put, List.getElem_toArray, List.getElem_cons_succ, List.getElem_cons_zero, List.setIfInBounds_toArray, List.set_cons_zero, List.set_cons_succ]
    refine wpAnyH_take (i := 1) (v := ?_) rfl (by kernel_rfl) (by kernel_rfl) (by kernel_rfl) (fun _ _ _ h => h) (Or.inl ⟨by kernel_rfl, ?_⟩) hHeld ?_
    rotate_left
    · intro w hSw
      (try dsimp only at hSw)
      go_split_ands
      go_simp
      (try with_reducible rfl)
    try simp only [Act.put, List.getElem_toArray, List.getElem_cons_succ, List.getElem_cons_zero, List.setIfInBounds_toArray, List.set_cons_zero, List.set_cons_succ]
    refine wpAnyH_take (i := 2) (v := ?_) rfl (by kernel_rfl) (by kernel_rfl) (by kernel_rfl) (fun _ _ _ h => h) (Or.inl ⟨by kernel_rfl, ?_⟩) hHeld ?_
    rotate_left
    · intro w hSw
      (try dsimp only at hSw)
      go_split_ands
      go_simp
      (try with_reducible rfl)
    try simp only [Act.put, List.getElem_toArray, List.getElem_cons_succ, List.getElem_cons_zero, List.setIfInBounds_toArray, List.set_cons_zero, List.set_cons_succ]
    refine wpAnyH_take (i := 3) (v := ?_) rfl (by kernel_rfl) (by kernel_rfl) (by kernel_rfl) (fun _ _ _ h => h) (Or.inl ⟨by kernel_rfl, ?_⟩) hHeld ?_
    rotate_left
    · intro w hSw
      (try dsimp only at hSw)
      go_split_ands
      go_simp
      (try with_reducible rfl)
    try simp only [Act.put, List.getElem_toArray, List.getElem_cons_succ, List.getElem_cons_zero, List.setIfInBounds_toArray, List.set_cons_zero, List.set_cons_succ]
    refine wpAnyH_take (i := 4) (v := ?_) rfl (by kernel_rfl) (by kernel_rfl) (by kernel_rfl) (fun _ _ _ h => h) (Or.inl ⟨by kernel_rfl, ?_⟩) hHeld ?_
    rotate_left
    · intro w hSw
      (try dsimp only at hSw)
      go_split_ands
      go_simp
      (try with_reducible rfl)
    try simp only [Act.put, List.getElem_toArray, List.getElem_cons_succ, List.getElem_cons_zero, List.setIfInBounds_toArray, List.set_cons_zero, List.set_cons_succ]
    refine wpAnyH_take (i := 5) (v := ?_) rfl (by kernel_rfl) (by kernel_rfl) (by kernel_rfl) (fun _ _ _ h => h) (Or.inl ⟨by kernel_rfl, ?_⟩) hHeld ?_
    rotate_left
    · intro w hSw
      (try dsimp only at hSw)
      go_split_ands
      go_simp
      (try with_reducible rfl)
    try simp only [Act.put, List.getElem_toArray, List.getElem_cons_succ, List.getElem_cons_zero, List.setIfInBounds_toArray, List.set_cons_zero, List.set_cons_succ]
    refine wpAnyH_ready (rs := [6]) (by kernel_rfl) (by simp) ?_
    refine AllReadyH.cons rfl (fun KK hK => ?_) AllReadyH.nil
    clear hHeld
    obtain ⟨w5, hrun, hM5, hK5⟩ := S_22.out.st.mm.store (n := a) hxl hyl hzl
    have F5 := Lib.hid (FSt.close S_22.out.st h0 (show FC _ B mp ab s wd tries a (cI (prO s a)) from (by rw [HPO.out]; exact S_22.out)).c (by rw [HA.out.1, HA.out.2, HBx.out, HBy.out, HBz.out]; exact hM5) hK5)
    have K5 := Lib.hid (K_22.out.keeps hK5 (fun e => HKB.out.2.1 e.symm))
    have P5 := Lib.hid (P_22.out.more hK5)
    unfold kb at hrun
    go_simp
    refine hK.out _ _ ⟨F5.out.bk.cell 2, K5.out.cell 0, K5.out.cell 1, K5.out.cell 2⟩ (fun hHeld => ?_)
    clear hK KK hrun hM5 hK5
    try simp only [Act.put, List.getElem_toArray, List.getElem_cons_succ, List.getElem_cons_zero, List.setIfInBounds_toArray, List.set_cons_zero, List.set_cons_succ]
    refine wpAnyH_done (by kernel_rfl) ?_ _
    clear hHeld
    go_wp2_with fail
    go_end0
    exact ⟨rfl, F5.out, P5.out⟩
  | some k =>
    obtain ⟨v0, hv0, hf0, _⟩ := S_21.out.st.ah a h0
    have k3 := S_21.out.st.bk.cell 3
    have SA := Lib.hid (S_21.out.st.setA (Nat.le_refl a) h0 (k : Int))
    have KA := Lib.hid (K_21.out.far (p := ⟨ab, a, none⟩) (fun e => HKB.out.2.2 e.symm) (.int .i64 (k : Int)))
    go_wp2_with fail
    refine wp_world (fun wz => FC wz B mp ab s wd tries a (k : Int) ∧ KP mp ab w21 wz ∧ Bk wz kB #[.int .u8 (x : Int), .int .u8 (y : Int), .int .u8 (z : Int)]) ⟨⟨SA.out.1, SA.out.2.1⟩, SA.out.2.2, KA.out⟩ ?_
    rintro u5 ⟨q1, q2, q3⟩
    have S_30 := Lib.hid q1
    have P_30 := Lib.hid (P_21.out.both q2)
    have K_30 := Lib.hid q3
    clear q1 q2 q3 SA KA hv0 hf0 k3 S_21 K_21 P_21
    refine wp_region_held_drew (S := fun w' => w'.cell? ⟨B, 2, none⟩ = some (.map (some mp)) ∧ w'.cell? ⟨kB, 0, none⟩ = some (.int .u8 (x : Int)) ∧ w'.cell? ⟨kB, 1, none⟩ = some (.int .u8 (y : Int)) ∧ w'.cell? ⟨kB, 2, none⟩ = some (.int .u8 (z : Int))) (by kernel_rfl) ⟨S_30.out.st.bk.cell 2, K_30.out.cell 0, K_30.out.cell 1, K_30.out.cell 2⟩ (fun hHeld => ?_)
    clear hHeld
    refine anyH_world (fun wz => Ext u5 wz) (show Ext u5 u5.drew from Below.drew (Ext.refl u5)) ?_
    rintro w31 h
    have S_31 := Lib.hid (S_30.out.ext h)
    have K_31 := Lib.hid (K_30.out.ext h)
    have P_31 := Lib.hid (P_30.out.trans h)
    clear h S_30 K_30 P_30
    have hHeld : w31.cell? ⟨B, 2, none⟩ = some (.map (some mp)) ∧ w31.cell? ⟨kB, 0, none⟩ = some (.int .u8 (x : Int)) ∧ w31.cell? ⟨kB, 1, none⟩ = some (.int .u8 (y : Int)) ∧ w31.cell? ⟨kB, 2, none⟩ = some (.int .u8 (z : Int)) := ⟨S_31.out.st.bk.cell 2, K_31.out.cell 0, K_31.out.cell 1, K_31.out.cell 2⟩
    refine wpAnyH_take (i := 0) (v := ?_) rfl (by kernel_rfl) (by kernel_rfl) (by kernel_rfl) (fun _ _ _ h => h) (Or.inl ⟨by kernel_rfl, ?_⟩) hHeld ?_
    rotate_left
    · intro w hSw
      (try dsimp only at hSw)
      go_split_ands
      go_simp
      (try with_reducible rfl)
    try simp only [Act.put, List.getElem_toArray, List.getElem_cons_succ, List.getElem_cons_zero, List.setIfInBounds_toArray, List.set_cons_zero, List.set_cons_succ]
    refine wpAnyH_take (i := 1) (v := ?_) rfl (by kernel_rfl) (by kernel_rfl) (by kernel_rfl) (fun _ _ _ h => h) (Or.inl ⟨by kernel_rfl, ?_⟩) hHeld ?_
    rotate_left
    · intro w hSw
      (try dsimp only at hSw)
      go_split_ands
      go_simp
      (try with_reducible rfl)
    try simp only [Act.put, List.getElem_toArray, List.getElem_cons_succ, List.getElem_cons_zero, List.setIfInBounds_toArray, List.set_cons_zero, List.set_cons_succ]
    refine wpAnyH_take (i := 2) (v := ?_) rfl (by kernel_rfl) (by kernel_rfl) (by kernel_rfl) (fun _ _ _ h => h) (Or.inl ⟨by kernel_rfl, ?_⟩) hHeld ?_
    rotate_left
    · intro w hSw
      (try dsimp only at hSw)
      go_split_ands
      go_simp
      (try with_reducible rfl)
    try simp only [Act.put, List.getElem_toArray, List.getElem_cons_succ, List.getElem_cons_zero, List.setIfInBounds_toArray, List.set_cons_zero, List.set_cons_succ]
    refine wpAnyH_take (i := 3) (v := ?_) rfl (by kernel_rfl) (by kernel_rfl) (by kernel_rfl) (fun _ _ _ h => h) (Or.inl ⟨by kernel_rfl, ?_⟩) hHeld ?_
    rotate_left
    · intro w hSw
      (try dsimp only at hSw)
      go_split_ands
      go_simp
      (try with_reducible rfl)
    try simp only [Act.put, List.getElem_toArray, List.getElem_cons_succ, List.getElem_cons_zero, List.setIfInBounds_toArray, List.set_cons_zero, List.set_cons_succ]
    refine wpAnyH_take (i := 4) (v := ?_) rfl (by kernel_rfl) (by kernel_rfl) (by kernel_rfl) (fun _ _ _ h => h) (Or.inl ⟨by kernel_rfl, ?_⟩) hHeld ?_
    rotate_left
    · intro w hSw
      (try dsimp only at hSw)
      go_split_ands
      go_simp
      (try with_reducible rfl)
    try simp only [Act.put, List.getElem_toArray, List.getElem_cons_succ, List.getElem_cons_zero, List.setIfInBounds_toArray, List.set_cons_zero, List.set_cons_succ]
    refine wpAnyH_take (i := 5) (v := ?_) rfl (by kernel_rfl) (by kernel_rfl) (by kernel_rfl) (fun _ _ _ h => h) (Or.inl ⟨by kernel_rfl, ?_⟩) hHeld ?_
    rotate_left
    · intro w hSw
      (try dsimp only at hSw)
      go_split_ands
      go_simp
      (try with_reducible rfl)
    try simp only [Act.put, List.getElem_toArray, List.getElem_cons_succ, List.getElem_cons_zero, List.setIfInBounds_toArray, List.set_cons_zero, List.set_cons_succ]
    refine wpAnyH_ready (rs := [6]) (by kernel_rfl) (by simp) ?_
    refine AllReadyH.cons rfl (fun KK hK => ?_) AllReadyH.nil
    clear hHeld
    obtain ⟨w5, hrun, hM5, hK5⟩ := S_31.out.st.mm.store (n := a) hxl hyl hzl
    have F5 := Lib.hid (FSt.close S_31.out.st h0 (show FC _ B mp ab s wd tries a (cI (prO s a)) from (by rw [HPO.out]; exact S_31.out)).c (by rw [HA.out.1, HA.out.2, HBx.out, HBy.out, HBz.out]; exact hM5) hK5)
    have K5 := Lib.hid (K_31.out.keeps hK5 (fun e => HKB.out.2.1 e.symm))
    have P5 := Lib.hid (P_31.out.more hK5)
    unfold kb at hrun
    go_simp
    refine hK.out _ _ ⟨F5.out.bk.cell 2, K5.out.cell 0, K5.out.cell 1, K5.out.cell 2⟩ (fun hHeld => ?_)
    clear hK KK hrun hM5 hK5
    try simp only [Act.put, List.getElem_toArray, List.getElem_cons_succ, List.getElem_cons_zero, List.setIfInBounds_toArray, List.set_cons_zero, List.set_cons_succ]
    refine wpAnyH_done (by kernel_rfl) ?_ _
    clear hHeld
    go_wp2_with fail
    go_end0
    exact ⟨rfl, F5.out, P5.out⟩
end Go.Proofs.YtdeiolagnheihaaDoor
