/-
  (*store.Store).pack.
  (*store.Store).Sync.
  store.Format.
  What store.read tells: plain; strings.HasPrefix.
-/
import Derived.Test.YtheidjagcafgnaaGreatDoorStoreFailsG1
import Derived.Test.YtheidjagcafgnaaGreatDoorStoreFailsG4
import Derived.Test.YtheidjagcafgnaaGreatDoorStoreFailsG3
set_option linter.unusedSimpArgs false
set_option linter.unusedVariables false
set_option maxRecDepth 100000
namespace Go.Proofs.YtheidjagcafgnaaGreatDoor
open Go.RowKit
namespace Sto4
/-- all texts, one behind the other -/
def pk (L : List Ck) : List UInt8 := L.flatMap fun c => (itm c.k ++ itm c.d).data.toList
theorem pk_snoc (L : List Ck) (c : Ck) : pk (L ++ [c]) = pk L ++ (itm c.k ++ itm c.d).data.toList := by simp [pk]
theorem itm_size (s : ByteArray) : (itm s).size = 4 + s.size := by unfold itm; rw [ByteArray.size_append, nB_size]
theorem pk_len_le {L : List Ck} {m : Nat} (h : ∀ c ∈ L, c.k.size ≤ m ∧ c.d.size ≤ m) : (pk L).length ≤ L.length * (8 + m + m) := by
 induction L with
 | nil => simp [pk]
 | cons c L ih =>
  have h1 := ih (fun x hx => h x (List.mem_cons_of_mem _ hx));have h2 := h c (List.mem_cons_self ..);have e : pk (c :: L) = (itm c.k ++ itm c.d).data.toList ++ pk L := rfl;rw [e, List.length_append];have e2 : (itm c.k ++ itm c.d).data.toList.length = 4 + c.k.size + (4 + c.d.size) := by
   show (itm c.k ++ itm c.d).size = _;rw [ByteArray.size_append, itm_size, itm_size]
  rw [e2, List.length_cons, Nat.succ_mul];omega
end Sto4
/-- a row of names as it lies -/
def NmB (w : World) (g : Nat) (L : List Ck) : Prop := ∃ cs : Array Value, w.heap[g]? = some (.cells cs 9 (0, 0)) ∧ ∀ (i : Nat) (c : Ck), L[i]? = some c → cs[i]? = some (Value.string c.k)
theorem NmB.ext {w w' : World} {g : Nat} {L : List Ck} (h : NmB w g L) (hE : Ext w w') : NmB w' g L := by
 obtain ⟨cs, hb, r⟩ := h;exact ⟨cs, (hE.block g (lt_of_block hb)).trans hb, r⟩
theorem NmB.others {w w' : World} {g b : Nat} {L : List Ck} (h : NmB w g L) (hE : Lib.OthersKept 5 (some b) w w') (hn : g ≠ b) : NmB w' g L := by
 obtain ⟨cs, hb, r⟩ := h;exact ⟨cs, hE g _ hb (fun e => hn (by injection e)) (fun c fz e => by injection e with _ e _; exact absurd e (by decide)), r⟩
theorem NmB.cell {w : World} {g i : Nat} {c : Ck} {L : List Ck} (h : NmB w g L) (hi : L[i]? = some c) : w.cell? ⟨g, i, none⟩ = some (.string c.k) := by
 obtain ⟨cs, hb, r⟩ := h;rw [Lib.cell_of_heap hb];exact r i c hi
theorem NmB.of_own {w : World} {B g n cap : Nat} {L : List Ck} (h : w.ownsRow B 9 1 (.slice (some ⟨g, 0, none⟩) n cap) n (nmV L)) : NmB w g L := by
 have h0 := h;rcases h.2 with ⟨hv, _⟩ | ⟨g', cap', cur, hv, h1, h2, h3, h4, h5, h6⟩
 ·cases hv
 ·injection hv with hv; injection hv with hv; injection hv with hv;subst hv;refine ⟨cur, h2, fun i c hi => ?_⟩;have hl : (nmV L)[i]? = some (.string c.k) := by unfold nmV; rw [List.getElem?_map, hi]; rfl
  rw [← h6] at hl;have hlt : i < n * 1 := by
   by_cases q : i < n * 1
   ·exact q
   ·rw [List.getElem?_take, if_neg q] at hl; cases hl
  rw [List.getElem?_take_of_lt hlt, Array.getElem?_toList] at hl;exact hl
theorem nm_lit {w : World} {base : Nat} {e : TypeId} {size n : Nat} {v : Value} {xs : List Value} (h : w.ownsRow base e size v n xs) : ∃ x c, v = .slice x n c := by
 rcases ownsRow_slice h with ⟨rfl, rfl⟩ | ⟨g, c, rfl⟩
 ·exact ⟨_, _, rfl⟩
 ·exact ⟨_, _, rfl⟩
theorem below_ext {w0 w w' : World} {B : Nat} (h : Ext w0 w) (hB : w0.heap.size = B) (k : Below B w w') : Ext w0 w' := by subst hB; exact Below.trans h k
set_option linter.unusedSimpArgs false in
set_option maxHeartbeats 8000000 in
theorem pack_any (s mb n : Nat) (L : List Ck) (w : World) (c1 : w.cell? ⟨s, 1, none⟩ = some (.map (some mb))) (hT : TM w mb n L) (hs : Tx.Sorted L) (hn : n ≤ 100000) (hL : ∀ c ∈ L, c.k.size ≤ 300000 ∧ c.d.size ≤ 300000) :
  Calls Tryz.prog 43 #[.pointer (some ⟨s, 0, none⟩)] w fun e w' => e = .returned (.string ⟨(Sto4.pk L).toArray⟩) ∧ Ext w w' := by
 have HC1 := Lib.hid c1;have HT := Lib.hid hT;have HS := Lib.hid hs;have HL := Lib.hid hL;have HLN : Hid (L.length ≤ 100000) := Lib.hid (by obtain ⟨_, _, _, _, h⟩ := hT.size hs; omega);have HCL := Lib.hid (World.block_lt_of_cell? w _ c1);clear c1 hT hs hL;go_enter Tryz.func43, Tryz.ntmps43
 go_upto_region 2 with fail;refine wp_world (fun wz => Ext w wz ∧ BldZ w.heap.size w.heap.size [] wz) ⟨(Ext.refl w).alloc _, BldZ.fresh w⟩ ?_;rintro v0 ⟨hX, hB⟩;have X0 := Lib.hid hX;have B0 := Lib.hid hB;clear hX hB;obtain ⟨B, hB⟩ : ∃ B, w.heap.size = B := ⟨_, rfl⟩;have HB := Lib.hid hB;rw [hB] at B0 ⊢;clear hB;have HNM := Lib.hid (names_any s mb n L v0 ((X0.out.cell (p := ⟨s, 1, none⟩) HCL.out).trans HC1.out) (HT.out.ext X0.out) HS.out hn);go_wp2_with fail;refine HNM.out.mono ?_;rintro e v1 ⟨hX, v, rfl, hrow⟩;have X1 := Lib.hid (X0.out.trans hX);have B1 := Lib.hid (B0.out.ext hX);have HR := Lib.hid hrow;have HBV : Hid (B < v0.heap.size) := Lib.hid B0.out.1.lt;clear hX hrow X0 B0 HNM;obtain ⟨N, hN⟩ : ∃ N, L.length = N := ⟨_, rfl⟩;have HNN := Lib.hid hN;rw [hN] at HR;have hNb : N ≤ 100000 := by rw [← hN]; exact HLN.out
 clear hN;obtain ⟨x, c, rfl⟩ := nm_lit HR.out;have HG : Hid (∀ a, x = some a → ∃ gg, a = ⟨gg, 0, none⟩ ∧ B < gg ∧ NmB v1 gg L) := Lib.hid (fun a ha => by
  subst ha;rcases HR.out.2 with ⟨hv, _⟩ | ⟨gg, cap, cur, hv, h1, h2, _⟩
  ·cases hv
  ·injection hv with hv;injection hv with hv;have h3 := HR.out;rw [hv] at h3;exact ⟨gg, hv, by have := HBV.out; omega, NmB.of_own h3⟩)
 have HXN : Hid (x = none → N = 0) := Lib.hid (fun e => by
  rcases HR.out.2 with ⟨_, h0⟩ | ⟨gg, cap, cur, hv, _⟩
  ·exact h0
  ·rw [e] at hv; cases hv)
 clear HR;go_wp2_with fail;go_loopw [9] (fun kv wr => ∃ k : Nat, kv = .int .i64 (k : Int) ∧ k ≤ N ∧ Hid (Ext w wr) ∧ Hid (BldZ B B (Sto4.pk (L.take k)) wr) ∧ Hid (∀ a, x = some a → ∃ gg, a = ⟨gg, 0, none⟩ ∧ B < gg ∧ NmB wr gg L)) (fun kv _ => N - (intOf kv).toNat)
 case atStart => exact ⟨0, rfl, by omega, X1, B1, HG⟩
 case round =>
  clear X1 B1 HG;obtain ⟨k, rfl, hk, HX, HBZ, HG⟩ := hrel;by_cases hlt : k < N
  ·as_aux_lemma =>
    have t1 : decide ((k : Int) < (N : Int)) = true := decide_eq_true (by omega);have hkl : k < L.length := by rw [HNN.out]; exact hlt
    obtain ⟨q, hq⟩ : ∃ q, L[k]? = some q := ⟨_, List.getElem?_eq_getElem hkl⟩;have HQ := Lib.hid hq;obtain ⟨a, rfl⟩ : ∃ a, x = some a := by
     cases x with
     | none => exact absurd (HXN.out rfl) (by omega)
     | some a => exact ⟨a, rfl⟩
    obtain ⟨gg, rfl, hgB, hN⟩ := HG.out a rfl;have hc := hN.cell hq;have HNB := Lib.hid hN;have HGB := Lib.hid hgB;clear hN hgB hq hkl HG;have HQL : Hid (q.k.size ≤ 300000 ∧ q.d.size ≤ 300000) := Lib.hid (HL.out q (List.mem_of_getElem? HQ.out));have HFN : Hid (Tx.fnd L q.k = some q.d) := Lib.hid (Tx.fnd_of_mem HS.out (List.mem_of_getElem? HQ.out));have i0 : (0 : Int) ≤ (k : Int) := by omega
    have i1 : (k : Int) < (N : Int) := by omega
    go_upto_region 5 with fail;clear hc i0 i1;obtain ⟨i1, hi1⟩ : ∃ i, Sto4.itm q.k = i := ⟨_, rfl⟩;obtain ⟨i2, hi2⟩ : ∃ i, Sto4.itm q.d = i := ⟨_, rfl⟩;have hz1 : i1.size ≤ 300004 := by rw [← hi1, Sto4.itm_size]; have := HQL.out.1; omega
    have hz2 : i2.size ≤ 300004 := by rw [← hi2, Sto4.itm_size]; have := HQL.out.2; omega
    have hcat : ¬ 9223372036854775807 < i1.size + i2.size := by omega
    have HII := Lib.hid (And.intro hi1 hi2);have HI1 := Lib.hid (fun w => item_any q.k w (by have := HQL.out.1; omega));have HI2 := Lib.hid (fun w => item_any q.d w (by have := HQL.out.2; omega));rw [hi1] at HI1;rw [hi2] at HI2;clear hi1 hi2;have hpl : (Sto4.pk (L.take k)).length ≤ 100000 * 600008 := by
     have h1 := Sto4.pk_len_le (L := L.take k) (m := 300000) (fun c hc => HL.out c (List.mem_of_mem_take hc));have h2 : (L.take k).length ≤ 100000 := by rw [List.length_take]; omega
     exact Nat.le_trans h1 (Nat.mul_le_mul h2 (by omega))
    have HPL := Lib.hid hpl;clear hpl;have X_0 := HX;have B_0 := HBZ;have N_0 := HNB;clear HX HBZ HNB;refine wp_region_held_drew (S := fun w' => w'.cell? ⟨s, 1, none⟩ = some (.map (some mb))) (by kernel_rfl) ((X_0.out.cell (p := ⟨s, 1, none⟩) HCL.out).trans HC1.out) (fun hHeld => ?_);clear hHeld;refine anyH_world (fun wz => Ext wr wz) (show Ext wr wr.drew from Below.drew (Ext.refl wr)) ?_;rintro z1 h;have X_1 := Lib.hid (X_0.out.trans h);have B_1 := Lib.hid (B_0.out.ext h);have N_1 := Lib.hid (N_0.out.ext h);clear h X_0 B_0 N_0;have hHeld : z1.cell? ⟨s, 1, none⟩ = some (.map (some mb)) := ((X_1.out.cell (p := ⟨s, 1, none⟩) HCL.out).trans HC1.out);refine tkH 0 (v := ?_) rfl hHeld ?_ ?_;rotate_left
    ·intro w hSw;(try dsimp only at hSw);go_split_ands;go_simp;(try with_reducible rfl)
    (try simp only [Act.put, xa, xb, xc, xd, xe, xf]);refine tkH 2 (v := ?_) rfl hHeld ?_ ?_;rotate_left
    ·intro w hSw;(try dsimp only at hSw);go_split_ands;go_simp;(try with_reducible rfl)
    (try simp only [Act.put, xa, xb, xc, xd, xe, xf]);refine tkH 3 (v := ?_) rfl hHeld ?_ ?_;rotate_left
    ·intro w hSw;(try dsimp only at hSw);go_split_ands;go_simp;(try with_reducible rfl)
    (try simp only [Act.put, xa, xb, xc, xd, xe, xf]);refine tkH 4 (v := ?_) rfl hHeld ?_ ?_;rotate_left
    ·intro w hSw;(try dsimp only at hSw);go_split_ands;go_simp;(try with_reducible rfl)
    (try simp only [Act.put, xa, xb, xc, xd, xe, xf]);refine tkH 5 (v := ?_) rfl hHeld ?_ ?_;rotate_left
    ·intro w hSw;(try dsimp only at hSw);go_split_ands;go_simp;(try with_reducible rfl)
    (try simp only [Act.put, xa, xb, xc, xd, xe, xf]);refine tkH 6 (v := ?_) rfl hHeld ?_ ?_;rotate_left
    ·intro w hSw;(try dsimp only at hSw);go_split_ands;go_simp;(try with_reducible rfl)
    (try simp only [Act.put, xa, xb, xc, xd, xe, xf]);refine wpAnyH_ready (rs := [1, 7]) (by kernel_rfl) (by simp) ?_;refine AllReadyH.cons rfl (fun KK hK => ?_) (AllReadyH.cons rfl (fun KK hK => ?_) AllReadyH.nil)
    ·clear hHeld;go_simp;refine (HI1.out z1).mono ?_;rintro e z2 ⟨rfl, h⟩;have X_2 := Lib.hid (X_1.out.trans h);have B_2 := Lib.hid (B_1.out.ext h);have N_2 := Lib.hid (N_1.out.ext h);clear h X_1 B_1 N_1;go_simp;refine hK.out _ _ ((X_2.out.cell (p := ⟨s, 1, none⟩) HCL.out).trans HC1.out) (fun hHeld => ?_);clear hK KK;(try simp only [Act.put, xa, xb, xc, xd, xe, xf]);refine wpAnyH_ready (rs := [7]) (by kernel_rfl) (by simp) ?_;refine AllReadyH.cons rfl (fun KK hK => ?_) AllReadyH.nil;clear hHeld;have tl := ((HT.out.ext X_2.out).look q.k (by unfold maxLen; have := HQL.out.1; omega)).2.1;rw [HFN.out, Option.getD_some] at tl;go_simp;refine hK.out _ _ ((X_2.out.cell (p := ⟨s, 1, none⟩) HCL.out).trans HC1.out) (fun hHeld => ?_);clear hK KK tl;(try simp only [Act.put, xa, xb, xc, xd, xe, xf]);refine wpAnyH_ready (rs := [8]) (by kernel_rfl) (by simp) ?_;refine AllReadyH.cons rfl (fun KK hK => ?_) AllReadyH.nil;clear hHeld;go_simp;refine (HI2.out z2).mono ?_;rintro e z3 ⟨rfl, h⟩;have X_3 := Lib.hid (X_2.out.trans h);have B_3 := Lib.hid (B_2.out.ext h);have N_3 := Lib.hid (N_2.out.ext h);clear h X_2 B_2 N_2;go_simp;refine hK.out _ _ ((X_3.out.cell (p := ⟨s, 1, none⟩) HCL.out).trans HC1.out) (fun hHeld => ?_);clear hK KK;(try simp only [Act.put, xa, xb, xc, xd, xe, xf]);refine tkH 9 (v := ?_) rfl hHeld ?_ ?_;rotate_left
     ·intro w hSw;(try dsimp only at hSw);go_split_ands;go_simp;(try with_reducible rfl)
     (try simp only [Act.put, xa, xb, xc, xd, xe, xf]);refine wpAnyH_ready (rs := [10]) (by kernel_rfl) (by simp) ?_;refine AllReadyH.cons rfl (fun KK hK => ?_) AllReadyH.nil;clear hHeld;go_simp;refine (bld_write B B (Sto4.pk (L.take k)) (i1 ++ i2) z3 B_3.out.1 (by rw [ByteArray.size_append]; have := HPL.out; omega) (by rw [← HB.out]; exact X_3.out.size)).mono ?_;rintro e z4 ⟨rfl, hBl, hBe, hOt⟩;have X_N := Lib.hid (below_ext X_3.out HB.out hBe);have N_N := Lib.hid (N_3.out.others hOt (by have := HGB.out; omega));have B_N := Lib.hid hBl;clear hBl hBe hOt X_3 B_3 N_3;have X_4 := X_N;have N_4 := N_N;have B_4 := B_N;clear X_N N_N B_N;go_simp;refine hK.out _ _ ((X_4.out.cell (p := ⟨s, 1, none⟩) HCL.out).trans HC1.out) (fun hHeld => ?_);clear hK KK;(try simp only [Act.put, xa, xb, xc, xd, xe, xf]);refine wpAnyH_done (by kernel_rfl) ?_ _;clear hHeld;obtain ⟨kp, hkp⟩ : ∃ q : Nat, k + 1 = q := ⟨_, rfl⟩;have e6 : (k : Int) + 1 = (kp : Int) := by omega
     obtain ⟨wa, wb⟩ := stq (x := (kp : Int)) ⟨by omega, by omega⟩;have HPK : Hid (BldZ B B (Sto4.pk (L.take kp)) z4) := Lib.hid (by
      have h := B_4.out;rw [← HII.out.1, ← HII.out.2, ← Sto4.pk_snoc] at h;rw [← hkp, List.take_add_one, HQ.out];show BldZ B B (Sto4.pk (L.take k ++ [q])) _;refine BldZ.of h (fun e => ?_);have := congrArg List.length e;rw [Sto4.pk_snoc, List.length_append] at this;have e2 : (Sto4.itm q.k ++ Sto4.itm q.d).data.toList.length = 4 + q.k.size + (4 + q.d.size) := by
       show (Sto4.itm q.k ++ Sto4.itm q.d).size = _;rw [ByteArray.size_append, Sto4.itm_size, Sto4.itm_size]
      rw [e2] at this;simp at this)
     have HKP := Lib.hid hkp;clear hkp;go_wp2_with fail;go_roundw
     case rel => exact ⟨kp, by first | rfl | go_num, by have := HKP.out; omega, X_4, HPK, Lib.hid (fun a ha => by injection ha with ha; subst ha; exact ⟨gg, rfl, HGB.out, N_4.out⟩)⟩
     case measure => have := HKP.out; simp [intOf]; omega
    ·clear hHeld;have tl := ((HT.out.ext X_1.out).look q.k (by unfold maxLen; have := HQL.out.1; omega)).2.1;rw [HFN.out, Option.getD_some] at tl;go_simp;refine hK.out _ _ ((X_1.out.cell (p := ⟨s, 1, none⟩) HCL.out).trans HC1.out) (fun hHeld => ?_);clear hK KK tl;(try simp only [Act.put, xa, xb, xc, xd, xe, xf]);refine wpAnyH_ready (rs := [1]) (by kernel_rfl) (by simp) ?_;refine AllReadyH.cons rfl (fun KK hK => ?_) AllReadyH.nil;clear hHeld;go_simp;refine (HI1.out z1).mono ?_;rintro e z2 ⟨rfl, h⟩;have X_2 := Lib.hid (X_1.out.trans h);have B_2 := Lib.hid (B_1.out.ext h);have N_2 := Lib.hid (N_1.out.ext h);clear h X_1 B_1 N_1;go_simp;refine hK.out _ _ ((X_2.out.cell (p := ⟨s, 1, none⟩) HCL.out).trans HC1.out) (fun hHeld => ?_);clear hK KK;(try simp only [Act.put, xa, xb, xc, xd, xe, xf]);refine wpAnyH_ready (rs := [8]) (by kernel_rfl) (by simp) ?_;refine AllReadyH.cons rfl (fun KK hK => ?_) AllReadyH.nil;clear hHeld;go_simp;refine (HI2.out z2).mono ?_;rintro e z3 ⟨rfl, h⟩;have X_3 := Lib.hid (X_2.out.trans h);have B_3 := Lib.hid (B_2.out.ext h);have N_3 := Lib.hid (N_2.out.ext h);clear h X_2 B_2 N_2;go_simp;refine hK.out _ _ ((X_3.out.cell (p := ⟨s, 1, none⟩) HCL.out).trans HC1.out) (fun hHeld => ?_);clear hK KK;(try simp only [Act.put, xa, xb, xc, xd, xe, xf]);refine tkH 9 (v := ?_) rfl hHeld ?_ ?_;rotate_left
     ·intro w hSw;(try dsimp only at hSw);go_split_ands;go_simp;(try with_reducible rfl)
     (try simp only [Act.put, xa, xb, xc, xd, xe, xf]);refine wpAnyH_ready (rs := [10]) (by kernel_rfl) (by simp) ?_;refine AllReadyH.cons rfl (fun KK hK => ?_) AllReadyH.nil;clear hHeld;go_simp;refine (bld_write B B (Sto4.pk (L.take k)) (i1 ++ i2) z3 B_3.out.1 (by rw [ByteArray.size_append]; have := HPL.out; omega) (by rw [← HB.out]; exact X_3.out.size)).mono ?_;rintro e z4 ⟨rfl, hBl, hBe, hOt⟩;have X_N := Lib.hid (below_ext X_3.out HB.out hBe);have N_N := Lib.hid (N_3.out.others hOt (by have := HGB.out; omega));have B_N := Lib.hid hBl;clear hBl hBe hOt X_3 B_3 N_3;have X_4 := X_N;have N_4 := N_N;have B_4 := B_N;clear X_N N_N B_N;go_simp;refine hK.out _ _ ((X_4.out.cell (p := ⟨s, 1, none⟩) HCL.out).trans HC1.out) (fun hHeld => ?_);clear hK KK;(try simp only [Act.put, xa, xb, xc, xd, xe, xf]);refine wpAnyH_done (by kernel_rfl) ?_ _;clear hHeld;obtain ⟨kp, hkp⟩ : ∃ q : Nat, k + 1 = q := ⟨_, rfl⟩;have e6 : (k : Int) + 1 = (kp : Int) := by omega
     obtain ⟨wa, wb⟩ := stq (x := (kp : Int)) ⟨by omega, by omega⟩;have HPK : Hid (BldZ B B (Sto4.pk (L.take kp)) z4) := Lib.hid (by
      have h := B_4.out;rw [← HII.out.1, ← HII.out.2, ← Sto4.pk_snoc] at h;rw [← hkp, List.take_add_one, HQ.out];show BldZ B B (Sto4.pk (L.take k ++ [q])) _;refine BldZ.of h (fun e => ?_);have := congrArg List.length e;rw [Sto4.pk_snoc, List.length_append] at this;have e2 : (Sto4.itm q.k ++ Sto4.itm q.d).data.toList.length = 4 + q.k.size + (4 + q.d.size) := by
       show (Sto4.itm q.k ++ Sto4.itm q.d).size = _;rw [ByteArray.size_append, Sto4.itm_size, Sto4.itm_size]
      rw [e2] at this;simp at this)
     have HKP := Lib.hid hkp;clear hkp;go_wp2_with fail;go_roundw
     case rel => exact ⟨kp, by first | rfl | go_num, by have := HKP.out; omega, X_4, HPK, Lib.hid (fun a ha => by injection ha with ha; subst ha; exact ⟨gg, rfl, HGB.out, N_4.out⟩)⟩
     case measure => have := HKP.out; simp [intOf]; omega
  ·as_aux_lemma =>
    obtain rfl : k = N := by omega
    have t1 : decide ((k : Int) < (k : Int)) = false := decide_eq_false (by omega);have HBS := Lib.hid (bldz_string B B (Sto4.pk (L.take k)) wr HBZ.out);rw [← HNN.out, List.take_length] at HBS;clear HBZ HG;go_wp2_with fail;refine HBS.out.mono ?_;rintro e w9 ⟨rfl, hBe⟩;have X9 := Lib.hid (below_ext HX.out HB.out hBe);clear hBe HBS;go_wp2_with fail;go_ret;exact ⟨rfl, X9.out⟩
end Go.Proofs.YtheidjagcafgnaaGreatDoor
namespace Go.Proofs.YtheidjagcafgnaaGreatDoor
open Go.RowKit
/-- a store on a disk -/
structure StS (w : World) (B0 : Nat) (S : Nat → Prop) (s d mb n cn : Nat) (m : Dk.DM) (b : Nat) (L : List Ck) (sy hf : Nat) (lost : Bool) : Prop where
 D : DS w S d n m b
 B : Bk w s (stV d mb sy hf lost)
 T : TM w mb cn L
 so : Tx.Sorted L
 sz : ∀ c ∈ L, c.k.size ≤ 300000 ∧ c.d.size ≤ 300000
 ns : ¬ S s
 nm : ¬ S mb
 ne : s ≠ mb
 lo : ∀ k, S k → B0 ≤ k
 los : B0 ≤ s
 lom : B0 ≤ mb
 cnb : cn ≤ 100000
theorem StS.ext {w w' : World} {B0 : Nat} {S : Nat → Prop} {s d mb n cn : Nat} {m : Dk.DM} {b : Nat} {L : List Ck} {sy hf : Nat} {lost : Bool} (h : StS w B0 S s d mb n cn m b L sy hf lost) (hE : Ext w w') : StS w' B0 S s d mb n cn m b L sy hf lost :=
 ⟨h.D.ext hE, h.B.ext hE, h.T.ext hE, h.so, h.sz, h.ns, h.nm, h.ne, h.lo, h.los, h.lom, h.cnb⟩
/-- the packed texts -/
def pkB (L : List Ck) : ByteArray := ⟨(Sto4.pk L).toArray⟩
def SyncP (w w' : World) (E : Nat → Addr) (B0 : Nat) (S : Nat → Prop) (s d mb n cn : Nat) (m : Dk.DM) (b : Nat) (L : List Ck) (sy hf : Nat) (lost : Bool) (e : Ending) : Prop :=
 if lost = true then e = .returned (sentV (E 8)) ∧ Ext w w'
 else if (n - 2) / 2 * 64 < (pkB L).size then e = .returned (sentV (E 7)) ∧ Ext w w'
 else ∃ m' ok b', Sto4.SyncR m (pkB L) (2 + (1 - hf) * ((n - 2) / 2)) ((sy + 1) % 2) (Sto4.hd (sy + 1) (1 - hf) (pkB L).size (Crc.crc (pkB L).data.toList)) m' ok ∧ b' ≤ b + 2001 ∧ (ok = true → b' = 0) ∧
  StS w' B0 (grow S w w') s d mb n cn m' b' L (if ok then sy + 1 else sy) (if ok then 1 - hf else hf) (!ok) ∧ Keeps (fun k => S k ∨ k = s) w w' ∧ e = .returned (if ok then .nilIface else sentV (E 8))
theorem DS.mono {w : World} {S S' : Nat → Prop} {d n b : Nat} {m : Dk.DM} (h : DS w S d n m b) (hS : ∀ k, S k → S' k) (hl : ∀ k, S' k → k < w.heap.size) : DS w S' d n m b := by
 obtain ⟨gk, ck, gn, cn, vw, hx⟩ := h.ex;exact ⟨⟨gk, ck, gn, cn, vw, hx.mono hS⟩, h.ok, hl, h.n1⟩
set_option linter.unusedSimpArgs false in
set_option maxHeartbeats 8000000 in
theorem sync_any (B0 s d mb n cn : Nat) (m : Dk.DM) (b : Nat) (L : List Ck) (sy hf : Nat) (lost : Bool) (S : Nat → Prop) (w : World) (E : Nat → Addr) (hE : Errs w E) (hB0 : ∀ c, c < 9 → gk c < B0 ∧ (E c).block < B0)
  (h : StS w B0 S s d mb n cn m b L sy hf lost) (hn : 8 ≤ n) (hf1 : hf ≤ 1) (hsy : sy ≤ 1000000) (hb : b ≤ 2500) :
  Calls Tryz.prog 26 #[.pointer (some ⟨s, 0, none⟩)] w fun e w' => SyncP w w' E B0 S s d mb n cn m b L sy hf lost e := by
 have HN : Hid (n ≤ 4000) := Lib.hid h.D.n1.2;have H0 := Lib.hid h;have HES := Lib.hid (And.intro hE hB0);clear h hE hB0;go_enter Tryz.func26, Tryz.ntmps26
 go_upto_region 1 with fail;refine wp_world (fun wz => Ext w wz ∧ Bk wz w.heap.size #[.pointer (some ⟨s, 0, none⟩)]) ⟨(Ext.refl w).alloc _, Bk.at rfl⟩ ?_;rintro v0 ⟨hX, hQ⟩;obtain ⟨qb, hqb⟩ : ∃ q, w.heap.size = q := ⟨_, rfl⟩;have HQB := Lib.hid hqb;rw [hqb] at hQ ⊢;have X0 := Lib.hid hX;have Q0 := Lib.hid hQ;have H1 := Lib.hid (H0.out.ext hX);clear hX hQ hqb;have q0 := Q0.out.cell 0;have d4 := H1.out.B.cell 4;cases lost with
 | true =>
  have ep : v0.cell? ⟨2, 0, none⟩ = some (.iface 188 (.pointer (some (E 8)))) := (HES.out.1.ext X0.out).var 8 (by decide);go_wp2_with fail;go_ret;unfold SyncP;rw [if_pos rfl];exact ⟨rfl, X0.out⟩
 | false =>
  have HPK := Lib.hid (pack_any s mb cn L v0 (H1.out.B.cell 1) H1.out.T H1.out.so H1.out.cnb H1.out.sz);obtain ⟨t, ht⟩ : ∃ t, pkB L = t := ⟨_, rfl⟩;have HTT := Lib.hid ht;have HPK2 : Hid (Calls Tryz.prog 43 #[.pointer (some ⟨s, 0, none⟩)] v0 fun e w' => e = .returned (.string t) ∧ Ext v0 w') := Lib.hid (by rw [← ht]; exact HPK.out);clear HPK ht;go_wp2_with fail;refine HPK2.out.mono ?_;rintro e v1 ⟨rfl, hX⟩;have X1 := Lib.hid (X0.out.trans hX);have Q1 := Lib.hid (Q0.out.ext hX);have H2 := Lib.hid (H1.out.ext hX);clear hX X0 Q0 H1 q0 d4 HPK2;go_upto_region 4 with fail;refine wp_world (fun wz => Ext w wz ∧ Bk wz qb #[.pointer (some ⟨s, 0, none⟩)] ∧ Bk wz v1.heap.size #[.string t] ∧ StS wz B0 S s d mb n cn m b L sy hf false ∧ Ext v1 wz) ?hw ?_
  case hw =>
   refine ⟨X1.out.trans ?_, Q1.out.ext ?_, Bk.at (by simp), H2.out.ext ?_, ?_⟩ <;> (repeat (first | exact Ext.refl _ | refine Ext.alloc ?_ _ | refine Below.setCell ?_ (by simp <;> omega) _))
  rintro v2 ⟨hX, hQ, hP, hH, hE⟩;obtain ⟨pb, hpb⟩ : ∃ q, v1.heap.size = q := ⟨_, rfl⟩;have HPB : Hid (qb < pb ∧ pb < v2.heap.size ∧ w.heap.size ≤ qb) := Lib.hid (by rw [← hpb]; exact ⟨Q1.out.lt, hP.lt, by rw [HQB.out]; exact Nat.le_refl _⟩);rw [hpb] at hP ⊢;have X2 := Lib.hid hX;have Q2 := Lib.hid hQ;have P2 := Lib.hid hP;have H3 := Lib.hid hH;clear hX hQ hP hH hE X1 Q1 H2 hpb;obtain ⟨hf2, hhf⟩ : ∃ q, (n - 2) / 2 = q := ⟨_, rfl⟩;have HHF := Lib.hid hhf;have hf2b : 3 ≤ hf2 ∧ hf2 ≤ 1999 ∧ 2 * hf2 ≤ n - 2 := by have := HN.out; omega
  obtain ⟨h64, hh64⟩ : ∃ q, hf2 * 64 = q := ⟨_, rfl⟩;have e1 : (hf2 : Int) * 64 = (h64 : Int) := by omega
  obtain ⟨wa1, wb1⟩ := stq (x := (h64 : Int)) ⟨by omega, by omega⟩;have HH64 := Lib.hid hh64;clear hhf hh64;have HXD := Lib.hid (Below.drew (Ext.refl v2) : Ext v2 v2.drew);have p0 : v2.drew.cell? ⟨pb, 0, none⟩ = some (.string t) := (P2.out.ext HXD.out).cell 0;have q0 : v2.drew.cell? ⟨qb, 0, none⟩ = some (.pointer (some ⟨s, 0, none⟩)) := (Q2.out.ext HXD.out).cell 0;have d0 : v2.drew.cell? ⟨s, 0, none⟩ = some (.pointer (some ⟨d, 0, none⟩)) := (H3.out.B.ext HXD.out).cell 0;have HHA : Hid (∀ wz, wz = v2.drew → Calls Tryz.prog 44 #[.pointer (some ⟨d, 0, none⟩)] wz fun e w' => e = .returned (.int .i64 (hf2 : Int)) ∧ w' = wz) := Lib.hid (fun wz e => by subst e; rw [← HHF.out]; exact (half_any d n b m S v2.drew (H3.out.D.ext HXD.out) (by omega) (by have := HN.out; omega)).mono (fun _ _ q => ⟨q.1, q.2.symm⟩));refine wp_regionQ (by kernel_rfl) (by kernel_rfl) ?_;refine wpQ_yes (by kernel_rfl) (fun K hK => ?_);go_simp;refine hK _ ?_;clear hK K;refine wpQ_yes (by kernel_rfl) (fun K hK => ?_);go_simp;refine hK _ ?_;clear hK K;refine wpQ_yes (by kernel_rfl) (fun K hK => ?_);go_simp;refine hK _ ?_;clear hK K;refine wpQ_yes (by kernel_rfl) (fun K hK => ?_);go_simp;refine hK _ ?_;clear hK K;refine wpQ_yes (by kernel_rfl) (fun K hK => ?_);go_simp;refine hK _ ?_;clear hK K;refine wpQ_yes (by kernel_rfl) (fun K hK => ?_);go_simp;refine hK _ ?_;clear hK K;refine wpQ_yes (by kernel_rfl) (fun K hK => ?_);go_simp;refine ⟨_, HHA.out _ rfl, hK _ ?_⟩;clear hK K;refine wpQ_yes (by kernel_rfl) (fun K hK => ?_)
  go_simp;refine hK _ ?_;clear hK K;refine wpQ_yes (by kernel_rfl) (fun K hK => ?_);go_simp;refine hK _ ?_;clear hK K;refine wpQ_nil ?_;clear p0 q0 d0 HHA wa1 wb1 e1;by_cases hfull : h64 < t.size
  ·as_aux_lemma =>
    have t1 : decide ((h64 : Int) < (t.size : Int)) = true := decide_eq_true (by omega);have n1 : h64 < t.size := hfull;have ef : v2.drew.cell? ⟨1, 0, none⟩ = some (.iface 188 (.pointer (some (E 7)))) := ((HES.out.1.ext X2.out).ext HXD.out).var 7 (by decide);have ef2 : v2.cell? ⟨1, 0, none⟩ = some (.iface 188 (.pointer (some (E 7)))) := (HES.out.1.ext X2.out).var 7 (by decide);have HFU := Lib.hid hfull;clear hfull;go_wp2_with fail;go_ret;unfold SyncP;rw [if_neg (by decide), if_pos (by rw [HHF.out, HTT.out, HH64.out]; exact HFU.out)];exact ⟨rfl, X2.out.trans HXD.out⟩
  ·as_aux_lemma =>
    have t1 : decide ((h64 : Int) < (t.size : Int)) = false := decide_eq_false (by omega);have n1 : ¬ h64 < t.size := hfull;have HFU := Lib.hid hfull;clear hfull;obtain ⟨v3, hv3⟩ : ∃ z, v2.drew = z := ⟨_, rfl⟩;have X3 : Hid (Ext w v3) := Lib.hid (by rw [← hv3]; exact X2.out.trans HXD.out);have Q3 : Hid (Bk v3 qb #[.pointer (some ⟨s, 0, none⟩)]) := Lib.hid (by rw [← hv3]; exact Q2.out.ext HXD.out);have P3 : Hid (Bk v3 pb #[.string t]) := Lib.hid (by rw [← hv3]; exact P2.out.ext HXD.out);have H4 : Hid (StS v3 B0 S s d mb n cn m b L sy hf false) := Lib.hid (by rw [← hv3]; exact H3.out.ext HXD.out);have HPB2 : Hid (qb < pb ∧ pb < v3.heap.size ∧ w.heap.size ≤ qb) := Lib.hid (by rw [← hv3]; exact HPB.out);rw [hv3];clear hv3 X2 Q2 P2 H3 HXD HPB;obtain ⟨at_, hat⟩ : ∃ q, 1 - hf = q := ⟨_, rfl⟩;have e2 : (1 : Int) - (hf : Int) = (at_ : Int) := by omega
    have hat1 : at_ ≤ 1 := by omega
    have HAT := Lib.hid hat;obtain ⟨wa2, wb2⟩ := stq (x := (at_ : Int)) ⟨by omega, by omega⟩;clear hat;have q0 := Q3.out.cell 0;have d3 := H4.out.B.cell 3;go_upto_region 8 with fail;refine wp_world (fun wz => Ext v3 wz ∧ Bk wz v3.heap.size #[.int .i64 (at_ : Int)]) ?hw ?_
    case hw => exact ⟨by repeat (first | exact Ext.refl _ | refine Ext.alloc ?_ _ | refine Below.setCell ?_ (by simp <;> omega) _), Bk.at (by simp)⟩
    rintro v4 ⟨hE, hA⟩;obtain ⟨ab, hab⟩ : ∃ q, v3.heap.size = q := ⟨_, rfl⟩;have HAB : Hid (pb < ab ∧ ab < v4.heap.size) := Lib.hid (by rw [← hab]; exact ⟨HPB2.out.2.1, hA.lt⟩);rw [hab] at hA ⊢;have X4 := Lib.hid (X3.out.trans hE);have Q4 := Lib.hid (Q3.out.ext hE);have P4 := Lib.hid (P3.out.ext hE);have A4 := Lib.hid hA;have H5 := Lib.hid (H4.out.ext hE);have HSZ := Lib.hid hE.size;clear hE hA hab X3 Q3 P3 H4 q0 d3 wa2 wb2 e2 t1 n1;have HSL : Hid (∀ k, S k → k < w.heap.size) := Lib.hid H0.out.D.lt;have HSY : Hid (SyE v4 v4 S pb qb ab s d n (stV d mb sy hf false) t at_ m b) := Lib.hid ⟨P4.out, Q4.out, A4.out, H5.out.B, After.refl H5.out.D, ⟨fun q => by have := HSL.out _ q; have := HPB2.out; omega, P4.out.lt⟩, ⟨fun q => by have := HSL.out _ q; have := HPB2.out; omega, Q4.out.lt⟩, ⟨fun q => by have := HSL.out _ q; have := HPB2.out; have := HAB.out; omega, A4.out.lt⟩, ⟨H5.out.ns, H5.out.B.lt⟩⟩;have HSC : Hid (Sto4.secs t ≤ hf2) := Lib.hid (by unfold Sto4.secs; have := HFU.out; have := HH64.out; omega);have HCL := Lib.hid (syn_any pb qb ab s d mb n t at_ sy hf m b S v4 E (HES.out.1.ext X4.out) (fun k hk c hc => by have h1 := HES.out.2 c hc; have h2 := H5.out.lo k hk; exact ⟨by omega, by omega⟩) HSY.out hat1 (by omega) (by rw [HHF.out]; exact HSC.out) hsy (by have := HSC.out; omega));go_wp2_with fail;refine HCL.out.mono ?_;rintro e v5 ⟨m', ok, b', hR, hb2, hb3, hY, rfl⟩;have HR := Lib.hid hR;have HBB := Lib.hid (And.intro hb2 hb3);have HY := Lib.hid hY;clear hR hb2 hb3 hY HCL HSY;have HKP : Hid (Keeps S v4 v5) := Lib.hid HY.out.D.2
    have HT5 : Hid (TM v5 mb cn L) := Lib.hid (H5.out.T.keeps HKP.out H5.out.nm);have HWS : Hid (w.heap.size ≤ v4.heap.size) := Lib.hid X4.out.size;have HGR : Hid (∀ k, grow S v4 v5 k → grow S w v5 k) := Lib.hid (fun k hk => by rcases hk with q | q; exact .inl q; exact .inr ⟨by have := HWS.out; omega, q.2⟩);have HNG : Hid (∀ k, k < w.heap.size → ¬ S k → ∀ wz, ¬ grow S w wz k) := Lib.hid (fun k hk hS wz q => by rcases q with q | q; exact hS q; omega);have HLS : Hid (s < w.heap.size ∧ mb < w.heap.size) := Lib.hid ⟨H0.out.B.lt, H0.out.T.lt⟩;have HKW : Hid (Keeps (fun k => S k ∨ k = s) w v5) := Lib.hid (ext_keeps X4.out (HKP.out.mono (fun _ _ q => .inl q)));have HDS : Hid (DS v5 (grow S w v5) d n m' b') := Lib.hid (HY.out.D.1.mono HGR.out (fun k hk => by rcases hk with q | q; exact HY.out.D.1.lt k (.inl q); exact q.2));have HLO : Hid (∀ (wz : World), ∀ k, grow S w wz k → B0 ≤ k) := Lib.hid (fun wz k hk => by rcases hk with q | q; exact H0.out.lo k q; have h1 := H0.out.los; have h2 := HLS.out.1; omega);have q0 := HY.out.Q.cell 0;cases ok with
    | false =>
     unfold sentV;simp only [Bool.false_eq_true, if_false];have f4 := HY.out.B.frozen 4;have d4 := HY.out.B.cell 4;have HFIN : Hid (StS (v5.setCell ⟨s, 4, none⟩ (.bool true)) B0 (grow S w v5) s d mb n cn m' b' L sy hf true ∧ Keeps (fun k => S k ∨ k = s) w (v5.setCell ⟨s, 4, none⟩ (.bool true))) := Lib.hid (by
      have hk := (Keeps.refl (fun k => k = s) v5).setCell (p := ⟨s, 4, none⟩) (.inl rfl) (.bool true);refine ⟨⟨HDS.out.keeps hk (fun k hk2 e => HNG.out s HLS.out.1 H0.out.ns v5 (e ▸ hk2)), HY.out.B.set_ 4 _, HT5.out.keeps hk (fun e => H0.out.ne e.symm), H0.out.so, H0.out.sz, HNG.out s HLS.out.1 H0.out.ns v5, HNG.out mb HLS.out.2 H0.out.nm v5, H0.out.ne, HLO.out v5, H0.out.los, H0.out.lom, H0.out.cnb⟩, ?_⟩;exact HKW.out.setCell (.inl (.inr rfl)) _)
     go_wp2_with fail;go_ret;unfold SyncP;rw [if_neg (by decide), if_neg (by rw [HHF.out, HTT.out, HH64.out]; exact HFU.out)];refine ⟨m', false, b', ?_, ?_, HBB.out.2, ?_, HFIN.out.2, rfl⟩
     ·rw [HTT.out, HAT.out]; exact HR.out
     ·have := HBB.out.1; have := HSC.out; omega
     ·have e : grow S w (v5.setCell ⟨s, 4, none⟩ (.bool true)) = grow S w v5 := by unfold grow; rw [World.size_setCell]
      rw [e];exact HFIN.out.1
    | true =>
     simp only [if_true];have f2 := HY.out.B.frozen 2;have d2 := HY.out.B.cell 2;have f3 := HY.out.B.frozen 3;have d3 := HY.out.B.cell 3;have a0 := HY.out.A.cell 0;obtain ⟨s1, hs1⟩ : ∃ q, sy + 1 = q := ⟨_, rfl⟩;have e1s : (sy : Int) + 1 = (s1 : Int) := by omega
     have wu1 := stu32 (x := (s1 : Int)) ⟨by omega, by omega⟩;have HS1 := Lib.hid hs1;clear hs1;have HFIN : Hid (StS ((v5.setCell ⟨s, 2, none⟩ (.int .u32 (s1 : Int))).setCell ⟨s, 3, none⟩ (.int .i64 (at_ : Int))) B0 (grow S w v5) s d mb n cn m' b' L s1 at_ false ∧ Keeps (fun k => S k ∨ k = s) w ((v5.setCell ⟨s, 2, none⟩ (.int .u32 (s1 : Int))).setCell ⟨s, 3, none⟩ (.int .i64 (at_ : Int)))) := Lib.hid (by
      have hk := ((Keeps.refl (fun k => k = s) v5).setCell (p := ⟨s, 2, none⟩) (.inl rfl) (.int .u32 (s1 : Int))).setCell (p := ⟨s, 3, none⟩) (.inl rfl) (.int .i64 (at_ : Int));refine ⟨⟨HDS.out.keeps hk (fun k hk2 e => HNG.out s HLS.out.1 H0.out.ns v5 (e ▸ hk2)), (HY.out.B.set_ 2 _).set_ 3 _, HT5.out.keeps hk (fun e => H0.out.ne e.symm), H0.out.so, H0.out.sz, HNG.out s HLS.out.1 H0.out.ns v5, HNG.out mb HLS.out.2 H0.out.nm v5, H0.out.ne, HLO.out v5, H0.out.los, H0.out.lom, H0.out.cnb⟩, ?_⟩;exact (HKW.out.setCell (.inl (.inr rfl)) _).setCell (.inl (.inr rfl)) _)
     have hqs : qb ≠ s := by have := HPB2.out.2.2; have := HLS.out.1; omega
     have has : ab ≠ s := by have := HPB2.out; have := HAB.out; have := HLS.out.1; omega
     go_wp2_with fail;go_ret;unfold SyncP;rw [if_neg (by decide), if_neg (by rw [HHF.out, HTT.out, HH64.out]; exact HFU.out)];refine ⟨m', true, b', ?_, ?_, fun _ => HBB.out.2 (by first | trivial | rfl), ?_, HFIN.out.2, rfl⟩
     ·rw [HTT.out, HAT.out]; exact HR.out
     ·have := HBB.out.1; have := HSC.out; omega
     ·have e : grow S w ((v5.setCell ⟨s, 2, none⟩ (.int .u32 (s1 : Int))).setCell ⟨s, 3, none⟩ (.int .i64 (at_ : Int))) = grow S w v5 := by unfold grow; rw [World.size_setCell, World.size_setCell]
      rw [e];simp only [if_true, Bool.not_true];rw [HS1.out, HAT.out];exact HFIN.out.1
end Go.Proofs.YtheidjagcafgnaaGreatDoor
namespace Go.Proofs.YtheidjagcafgnaaGreatDoor
open Go.RowKit
namespace Sto4
/-- the two heads are wiped -/
def wipe (m : Dk.DM) : Nat → Dk.DM
 | 0 => m
 | k + 1 => Dk.wr (wipe m k) k (Dk.pad ⟨#[]⟩)
theorem wipe_left {m : Dk.DM} (h : m.left = -1) : ∀ k, (wipe m k).left = -1
 | 0 => h
 | k + 1 => by show Dk.dec (wipe m k).left = -1; rw [wipe_left h k]; rfl
theorem wAt_left {m : Dk.DM} (h : m.left = -1) (p : ByteArray) (base : Nat) : ∀ k, (wAt m p base k).left = -1
 | 0 => h
 | k + 1 => by show Dk.dec (wAt m p base k).left = -1; rw [wAt_left h p base k]; rfl
/-- with power without end a sync ends well -/
theorem SyncR.sure {m m' : Dk.DM} {p h : ByteArray} {base hi : Nat} {ok : Bool} (hr : SyncR m p base hi h m' ok) (hl : m.left = -1) : ok = true ∧ m' = Dk.fl (Dk.wr (Dk.fl (wAt m p base (secs p))) hi (Dk.pad h)) := by
 have h1 := wAt_left hl p base;have h2 : (Dk.fl (wAt m p base (secs p))).left = -1 := by show Dk.dec _ = -1; rw [h1]; rfl
 have h3 : (Dk.wr (Dk.fl (wAt m p base (secs p))) hi (Dk.pad h)).left = -1 := by show Dk.dec _ = -1; rw [h2]; rfl
 cases hr with
 | part k hk h0 => rw [h1 k] at h0; cases h0
 | flushed h0 => rw [h2] at h0; cases h0
 | headed h0 => rw [h3] at h0; cases h0
 | done => exact ⟨rfl, rfl⟩
/-- a disk that was formatted -/
def fmt (m : Dk.DM) : Dk.DM := Dk.fl (Dk.wr (Dk.fl (Dk.fl (wipe m 2))) 1 (Dk.pad (hd 1 1 0 (Crc.crc []))))
end Sto4
def FmtP (w w' : World) (E : Nat → Addr) (B0 : Nat) (S : Nat → Prop) (d n : Nat) (m : Dk.DM) (e : Ending) : Prop :=
 if n < 8 then e = .returned (.tuple #[.pointer none, sentV (E 7)]) ∧ Ext w w'
 else ∃ s mb S', e = .returned (.tuple #[.pointer (some ⟨s, 0, none⟩), .nilIface]) ∧ StS w' B0 S' s d mb n 0 (Sto4.fmt m) 0 [] 1 1 false ∧ (∀ k, S k → S' k) ∧ (∀ k, S' k → S k ∨ w.heap.size ≤ k) ∧ w.heap.size ≤ s ∧ w.heap.size ≤ mb ∧ Keeps S w w'
set_option linter.unusedSimpArgs false in
set_option maxHeartbeats 8000000 in
theorem format_any (B0 d n b : Nat) (m : Dk.DM) (S : Nat → Prop) (w : World) (E : Nat → Addr) (hE : Errs w E) (hB0 : ∀ c, c < 9 → gk c < B0 ∧ (E c).block < B0) (hET : 9 < B0) (h : DS w S d n m b) (hlo : ∀ k, S k → B0 ≤ k) (hw : B0 ≤ w.heap.size) (hl : m.left = -1) (hb : b ≤ 2000) :
  Calls Tryz.prog 10 #[.pointer (some ⟨d, 0, none⟩)] w fun e w' => FmtP w w' E B0 S d n m e := by
 have HN := Lib.hid h.n1;have HD := Lib.hid h;have HES := Lib.hid (And.intro hE hB0);have HLO := Lib.hid (And.intro hlo hw);have HET : Hid (9 < B0) := Lib.hid hET;have HL := Lib.hid hl;have HSC := Lib.hid (sectors_any d n b m S w h);have ef : w.cell? ⟨1, 0, none⟩ = some (.iface 188 (.pointer (some (E 7)))) := hE.var 7 (by decide);clear h hE hB0 hlo hw hl;go_enter Tryz.func10, Tryz.ntmps10
 go_wp2_with fail;refine HSC.out.mono ?_;rintro e w1 ⟨rfl, hw1⟩;obtain rfl := hw1.symm;clear HSC;by_cases h8 : n < 8
 ·as_aux_lemma =>
   have t1 : decide ((n : Int) < 8) = true := decide_eq_true (by omega);have n1 : n < 8 := h8;have H8 := Lib.hid h8;go_wp2_with fail;go_region;all_goals
    go_wp2_with fail;go_ret2;unfold FmtP;rw [if_pos H8.out];exact ⟨rfl, Below.drew (Ext.refl _)⟩
 ·as_aux_lemma =>
   have t1 : decide ((n : Int) < 8) = false := decide_eq_false (by omega);have n1 : ¬ n < 8 := h8;have H8 := Lib.hid h8;clear ef h8;have hmm := @run_makeMap Tryz.prog;go_upto_region 4 with fail;clear t1 n1 hmm;refine wp_world (fun wz => Ext w wz ∧ TM wz w.heap.size 0 [] ∧ Bk wz (w.heap.size + 1) (stV d w.heap.size 0 0 false)) ?hw ?_
   case hw => exact ⟨((Ext.refl w).alloc _).alloc _, (TM.new w).ext ((Ext.refl _).alloc _), Bk.at (by simp)⟩
   rintro v0 ⟨hX, hT, hB⟩;obtain ⟨mb, hmb⟩ : ∃ q, w.heap.size = q := ⟨_, rfl⟩;obtain ⟨s, hs⟩ : ∃ q, mb + 1 = q := ⟨_, rfl⟩;rw [hmb, hs] at hB;rw [hmb] at hT ⊢;(try rw [hs]);have HMB := Lib.hid hmb;have HSB := Lib.hid hs;have X0 := Lib.hid hX;have T0 := Lib.hid hT;have B1 := Lib.hid hB;have A0 := Lib.hid (After.refl (HD.out.ext hX));have HVS : Hid (mb < v0.heap.size ∧ s < v0.heap.size) := Lib.hid ⟨hT.lt, hB.lt⟩;clear hX hT hB hmb hs;go_wp2_with fail;go_loopw [17] (fun kv wr => ∃ k : Nat, kv = .int .i64 (k : Int) ∧ k ≤ 2 ∧ Hid (After S v0 wr d n (Sto4.wipe m k) (b + k))) (fun kv _ => 2 - (intOf kv).toNat)
   case atStart => exact ⟨0, rfl, by omega, A0⟩
   case round =>
    clear A0;obtain ⟨k, rfl, hk, HA⟩ := hrel;by_cases hlt : k < 2
    ·as_aux_lemma =>
      have t1 : decide ((k : Int) < 2) = true := decide_eq_true (by omega);have HWR := Lib.hid (write_ok d n (b + k) k (Sto4.wipe m k) ⟨#[]⟩ (grow S v0 wr) wr HA.out.1 (by have := H8.out; omega) (by decide) (by rw [Sto4.wipe_left HL.out]; decide) (by omega));obtain ⟨kp, hkp⟩ : ∃ q, k + 1 = q := ⟨_, rfl⟩;have e6 : (k : Int) + 1 = (kp : Int) := by omega
      obtain ⟨wa, wb⟩ := stq (x := (kp : Int)) ⟨by omega, by omega⟩;have HKP := Lib.hid hkp;clear hkp;go_wp2_with fail;refine HWR.out.mono ?_;rintro e w2 ⟨rfl, hA⟩;have HA2 := Lib.hid (HA.out.trans hA);clear hA HWR HA;go_wp2_with fail;go_roundw
      case rel => exact ⟨kp, by first | rfl | go_num, by have := HKP.out; omega, by rw [← HKP.out]; exact HA2⟩
      case measure => have := HKP.out; simp [intOf]; omega
    ·as_aux_lemma =>
      obtain rfl : k = 2 := by omega
      have HFL := Lib.hid (flush_ok d n (b + 2) (Sto4.wipe m 2) (grow S v0 wr) wr HA.out.1 (by rw [Sto4.wipe_left HL.out]; decide));go_wp2_with fail;refine HFL.out.mono ?_;rintro e w2 ⟨rfl, hA⟩;have HA2 := Lib.hid (HA.out.trans ⟨hA.1.zero rfl, hA.2⟩);clear hA HFL HA;have HNS : Hid (∀ wz, ¬ grow S v0 wz s ∧ ¬ grow S v0 wz mb) := Lib.hid (fun wz => ⟨fun q => by rcases q with q | q; have := HD.out.lt s q; have := HSB.out; have := HMB.out; omega; have := HVS.out; omega, fun q => by rcases q with q | q; have := HD.out.lt mb q; have := HMB.out; omega; have := HVS.out; omega⟩);have HNS0 : Hid (¬ S s ∧ ¬ S mb) := Lib.hid ⟨fun q => by have := HD.out.lt s q; have := HSB.out; have := HMB.out; omega, fun q => by have := HD.out.lt mb q; have := HMB.out; omega⟩;have HST : Hid (StS w2 B0 (grow S v0 w2) s d mb n 0 (Dk.fl (Sto4.wipe m 2)) 0 [] 0 0 false) := Lib.hid ⟨HA2.out.1, B1.out.keeps HA2.out.2 HNS0.out.1, T0.out.keeps HA2.out.2 HNS0.out.2, List.Pairwise.nil, (fun c hc => by cases hc), (HNS.out w2).1, (HNS.out w2).2, by have := HSB.out; omega, fun k hk => (by rcases hk with q | q; exact HLO.out.1 k q; have h1 := X0.out.size; have h2 := HLO.out.2; omega), by have h1 := HSB.out; have h2 := HMB.out; have h3 := HLO.out.2; omega, by have h2 := HMB.out; have h3 := HLO.out.2; omega, by omega⟩;have HE2 : Hid (Errs w2 E) := Lib.hid (by
       have hb : Below B0 w w2 := (Below.mono X0.out HLO.out.2).trans (HA2.out.2.below (Nat.le_trans HLO.out.2 X0.out.size) (fun k hk q => by have := HLO.out.1 k q; omega));have e1 := HES.out.1;refine ⟨?_, fun k hk => ?_, fun k hk => ?_, e1.ne⟩
       ·exact (hb.cell (p := ⟨9, 0, none⟩) HET.out).trans e1.et
       ·exact (hb.cell (p := ⟨gk k, 0, none⟩) (HES.out.2 k hk).1).trans (e1.var k hk)
       ·obtain ⟨c, t, hc⟩ := e1.row k hk;exact ⟨c, t, (hb.block (E k).block (HES.out.2 k hk).2).trans hc⟩)
      have HSY := Lib.hid (sync_any B0 s d mb n 0 (Dk.fl (Sto4.wipe m 2)) 0 [] 0 0 false (grow S v0 w2) w2 E HE2.out HES.out.2 HST.out (by have := H8.out; omega) (by omega) (by omega) (by omega));go_wp2_with fail;refine HSY.out.mono ?_;rintro e w3 hP;unfold SyncP at hP;rw [if_neg (by decide), if_neg (by show ¬ _ < (0 : Nat); omega)] at hP;obtain ⟨m', ok, b', hR, _, hb0, hS, hK, rfl⟩ := hP;have hl2 : (Dk.fl (Sto4.wipe m 2)).left = -1 := by show Dk.dec _ = -1; rw [Sto4.wipe_left HL.out]; rfl
      obtain ⟨rfl, hm'⟩ := hR.sure hl2;have hb1 := hb0 rfl;subst hb1;have HS3 := Lib.hid hS;have HK3 := Lib.hid hK;have HM3 := Lib.hid hm';clear hS hK hR hb0 hm' hl2 HSY;simp only [if_true, Bool.not_true] at HS3 ⊢;go_wp2_with fail;go_ret2;unfold FmtP;rw [if_neg H8.out];refine ⟨s, mb, grow (grow S v0 w2) w2 w3, rfl, ?_, fun k hk => .inl (.inl hk), fun k hk => ?_, by have := HSB.out; have := HMB.out; omega, by have := HMB.out; omega, ?_⟩
      ·have h := HS3.out;rw [HM3.out] at h;exact h
      ·rcases hk with (q | q) | q
       ·exact .inl q
       ·exact .inr (by have := X0.out.size; omega)
       ·exact .inr (by have h1 := X0.out.size; have h2 := HA2.out.2.size; omega)
      ·refine (ext_keeps X0.out HA2.out.2).trans HK3.out (fun i hi q => ?_);have hm := HMB.out;rcases q with (q | q) | q
       ·exact q
       ·exfalso; have h1 := X0.out.size; omega
       ·exfalso; have h1 := HSB.out; omega
end Go.Proofs.YtheidjagcafgnaaGreatDoor
namespace Go.Proofs.YtheidjagcafgnaaGreatDoor
open Go.RowKit
theorem hasPrefix_any (s p : ByteArray) (w : World) (hs : s.size ≤ 9223372036854775807) (hp : p.size ≤ 9223372036854775807) : Calls Tryz.prog 49 #[.string s, .string p] w fun e w' => e = .returned (.bool (decide (s.data.toList.take p.size = p.data.toList))) ∧ w = w' := by
 have key : Calls Tryz.prog 70 #[.string s, .string p] w fun e w' => e = .returned (.bool (decide (s.data.toList.take p.size = p.data.toList))) ∧ w = w' := by
  by_cases h : p.size ≤ s.size
  ·have t0 : decide ((p.size : Int) ≤ (s.size : Int)) = true := decide_eq_true (by omega);have h2 : p.size ≤ s.size := h;go_enter Tryz.func70, Tryz.ntmps70
   go_wp2_with fail;go_ret;refine ⟨ret_bool ?_, rfl⟩;have e1 : (s.extract 0 p.size).data.toList = s.data.toList.take p.size := by rw [ByteArray.data_extract, Array.toList_extract]; simp
   rw [Bool.eq_iff_iff, beq_iff_eq, decide_eq_true_iff, ← e1, ByteArray.toList_eq, ByteArray.toList_eq]
  ·have t0 : decide ((p.size : Int) ≤ (s.size : Int)) = false := decide_eq_false (by omega);go_enter Tryz.func70, Tryz.ntmps70
   go_wp2_with fail;go_ret;refine ⟨ret_bool ?_, rfl⟩;rw [eq_comm, decide_eq_false_iff_not];intro q;have := congrArg List.length q;rw [List.length_take] at this;have e1 : s.data.toList.length = s.size := rfl;have e2 : p.data.toList.length = p.size := rfl;omega
 go_enter Tryz.func49, Tryz.ntmps49
 go_wp2_with fail;refine key.mono ?_;rintro e w1 ⟨rfl, rfl⟩;go_wp2_with fail;go_ret;exact ⟨rfl, rfl⟩

theorem takeL_lt {t a b : ByteArray} (h : takeL t = some (a, b)) : b.size + 4 ≤ t.size := by
 unfold takeL at h;split at h
 ·cases h
 split at h
 ·cases h
 ·injection h with h;injection h with h1 h2;subst h2;rw [ByteArray.size_extract];omega
namespace Sto4
/-- items of a text, two by two -/
def tkF : Nat → ByteArray → Option (List Ck)
 | 0, _ => none
 | f + 1, t => if t.size = 0 then some [] else match takeL t with
  | none => none
  | some (a, t1) => match takeL t1 with
   | none => none
   | some (b, t2) => (tkF f t2).map (fun l => ⟨a, b⟩ :: l)
def tk (t : ByteArray) : Option (List Ck) := tkF (t.size + 1) t
theorem tkF_same : ∀ (f g : Nat) (t : ByteArray), t.size < f → t.size < g → tkF f t = tkF g t
 | 0, _, _, h, _ => by omega
 | _, 0, _, _, h => by omega
 | f + 1, g + 1, t, hf, hg => by
  unfold tkF;by_cases h0 : t.size = 0
  ·rw [if_pos h0, if_pos h0]
  ·rw [if_neg h0, if_neg h0];cases h1 : takeL t with
   | none => rfl
   | some q =>
    obtain ⟨a, t1⟩ := q;have l1 := takeL_lt h1;simp only;cases h2 : takeL t1 with
    | none => rfl
    | some q =>
     obtain ⟨b, t2⟩ := q;have l2 := takeL_lt h2;simp only;rw [tkF_same f g t2 (by omega) (by omega)]
theorem tk_nil {t : ByteArray} (h : t.size = 0) : tk t = some [] := by unfold tk tkF; rw [if_pos h]
theorem tk_no1 {t : ByteArray} (h : t.size ≠ 0) (h1 : takeL t = none) : tk t = none := by unfold tk tkF; rw [if_neg h, h1]
theorem tk_no2 {t a t1 : ByteArray} (h : t.size ≠ 0) (h1 : takeL t = some (a, t1)) (h2 : takeL t1 = none) : tk t = none := by
 unfold tk tkF;rw [if_neg h, h1];simp only;rw [h2]
theorem tk_go {t a t1 b t2 : ByteArray} (h : t.size ≠ 0) (h1 : takeL t = some (a, t1)) (h2 : takeL t1 = some (b, t2)) : tk t = (tk t2).map (fun l => ⟨a, b⟩ :: l) := by
 have l1 := takeL_lt h1;have l2 := takeL_lt h2;have e : tkF t.size t2 = tk t2 := tkF_same _ _ _ (by omega) (by omega);unfold tk tkF;rw [if_neg h, h1];simp only;rw [h2];simp only;rw [e];rfl
/-- sectors, one behind the other -/
def datL (f : Nat → ByteArray) (base : Nat) : Nat → List UInt8
 | 0 => []
 | k + 1 => datL f base k ++ (f (base + k)).data.toList
def n4 (h : ByteArray) (i : Nat) : Nat := valN ((h.data.toList.drop i).take 4)
theorem n4_lt (h : ByteArray) (i : Nat) : n4 h i < 4294967296 := valN_lt _
/-- the text behind a head -/
def rest (f : Nat → ByteArray) (base sz : Nat) : ByteArray := ⟨((datL f base ((sz + 63) / 64)).take sz).toArray⟩
/-- what a head tells of -/
def readS (f : Nat → ByteArray) (n i : Nat) : Option (Nat × Nat × List Ck) :=
 let h := f i;if h.data.toList.take 4 = magic.data.toList then
  if hd (n4 h 4) (n4 h 8) (n4 h 12) (n4 h 16) ≠ h.extract 0 24 ∨ 1 < n4 h 8 ∨ (n - 2) / 2 * 64 < n4 h 12 then none
  else if Crc.crc (rest f (2 + n4 h 8 * ((n - 2) / 2)) (n4 h 12)).data.toList ≠ n4 h 16 then none
  else (tk (rest f (2 + n4 h 8 * ((n - 2) / 2)) (n4 h 12))).map (fun l => (n4 h 4, n4 h 8, l))
 else none
/-- items are put, one behind the other -/
def putAll (l : List Ck) : List Ck := l.foldl (fun L c => Tx.ins c.k c.d L) []
theorem putAll_snoc (l : List Ck) (c : Ck) : putAll (l ++ [c]) = Tx.ins c.k c.d (putAll l) := by unfold putAll; rw [List.foldl_append]; rfl
end Sto4
end Go.Proofs.YtheidjagcafgnaaGreatDoor
