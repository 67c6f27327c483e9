/-
  store.read.
-/
import Derived.Test.YtheidjagcafgnaaGreatDoorStoreFailsG1
import Derived.Test.YtheidjagcafgnaaGreatDoorStoreFailsG5
import Derived.Deep.CutBlock
set_option linter.unusedSimpArgs false
set_option linter.unusedVariables false
set_option maxRecDepth 100000
namespace Go.Proofs.YtheidjagcafgnaaGreatDoor
open Go.RowKit
def ReadP (w w' : World) (d : Nat) (r : Option (Nat × Nat × List Ck)) (e : Ending) : Prop :=
 Ext w w' ∧ match r with
 | none => e = .returned (.tuple #[.pointer none, .bool false])
 | some (sy, at_, l) => ∃ s mb, e = .returned (.tuple #[.pointer (some ⟨s, 0, none⟩), .bool true]) ∧ Bk w' s (stV d mb sy at_ false) ∧ TM w' mb l.length (Sto4.putAll l) ∧ w.heap.size ≤ s ∧ w.heap.size ≤ mb ∧ s ≠ mb
/-- how long the text in a cell is -/
def lenAt (w : World) (T : Nat) : Nat := match w.cell? ⟨T, 0, none⟩ with
 | some (.string s) => s.size
 | _ => 0
theorem lenAt_of {w : World} {T : Nat} {s : ByteArray} (h : w.cell? ⟨T, 0, none⟩ = some (.string s)) : lenAt w T = s.size := by unfold lenAt; rw [h]
theorem int_eq2 {a b : Int} (h : a = b) : (a != b) = false := by rw [h]; exact bne_self_eq_false _
theorem int_ne2 {a b : Int} (h : a ≠ b) : (a != b) = true := bne_iff_ne.2 h
theorem ex_list (s : ByteArray) (a b : Nat) : (s.extract a b).data.toList = (s.data.toList.drop a).take (b - a) := by rw [ByteArray.data_extract, Array.toList_extract, List.extract_eq_take_drop]
theorem datL_len {f : Nat → ByteArray} {base K : Nat} (h : ∀ k, k < K → (f (base + k)).size = 64) : (Sto4.datL f base K).length = K * 64 := by
 induction K with
 | zero => rfl
 | succ k ih =>
  show (Sto4.datL f base k ++ (f (base + k)).data.toList).length = _;rw [List.length_append, ih (fun j hj => h j (by omega))];have : (f (base + k)).data.toList.length = 64 := h k (by omega);omega
set_option linter.unusedSimpArgs false in
set_option maxHeartbeats 8000000 in
theorem rd_any (d n b i : Nat) (m : Dk.DM) (S : Nat → Prop) (w : World) (E : Nat → Addr) (hE : ErD w E) (h : DS w S d n m b) (hi : i < n) (hn : 8 ≤ n) (h64 : ∀ k, k < n → (m.now k).size = 64) :
  Calls Tryz.prog 42 #[.pointer (some ⟨d, 0, none⟩), .int .i64 (i : Int)] w fun e w' => ReadP w w' d (Sto4.readS m.now n i) e := by
 have HN : Hid (n ≤ 4000) := Lib.hid h.n1.2;have HD := Lib.hid h;have HED := Lib.hid hE;have H64 := Lib.hid h64;have HRD := Lib.hid (read_any d n b m (i : Int) S w E hE h);clear h hE h64;obtain ⟨r, hr⟩ : ∃ r, Sto4.readS m.now n i = r := ⟨_, rfl⟩;rw [hr];unfold Sto4.readS at hr;obtain ⟨h, hh⟩ : ∃ h, m.now i = h := ⟨_, rfl⟩;have hs64 : h.size = 64 := by rw [← hh]; exact H64.out i hi
 rw [hh] at hr;simp only at hr;go_enter Tryz.func42, Tryz.ntmps42
 go_wp2_with fail;refine HRD.out.mono ?_;rintro e w1 ⟨he, hX⟩;have X1 := Lib.hid hX;clear HRD hX;have he2 : e = .returned (.tuple #[.string h, .nilIface]) := by
  rcases he with ⟨hc, _⟩ | ⟨k, hk, _, rfl⟩
  ·omega
  ·have hk2 : k = i := by omega
   rw [hk2, hh]
 subst he2;clear he hh;have HHP := Lib.hid (fun w => hasPrefix_any h Sto4.magic w (by omega) (by decide));have hms : Sto4.magic.size = 4 := rfl;rw [hms] at HHP;unfold Sto4.magic at HHP;clear hms;by_cases hp : h.data.toList.take 4 = Sto4.magic.data.toList
 ·as_aux_lemma =>
   rw [if_pos hp] at hr;have HHF : Hid (∀ w, Calls Tryz.prog 49 #[.string h, .string ⟨#[99, 97, 107, 101]⟩] w fun e w' => e = .returned (.bool true) ∧ w = w') := Lib.hid (fun w => (HHP.out w).mono (fun e w' q => ⟨by rw [q.1]; congr 1; congr 1; exact decide_eq_true hp, q.2⟩));clear HHP hp;obtain ⟨sy, h_sy⟩ : ∃ q, Sto4.n4 h 4 = q := ⟨_, rfl⟩;rw [h_sy] at hr;have l_sy : sy < 4294967296 := by rw [← h_sy]; exact Sto4.n4_lt _ _
   obtain ⟨D0, hD0⟩ : ∃ q : ByteArray, h.extract 4 8 = q := ⟨_, rfl⟩;have HV0 : Hid (∀ (w0 wz : World), wz = w0 → Calls Tryz.prog 63 #[.string D0] wz fun e w' => e = .returned (.int .u32 (sy : Int)) ∧ w' = wz) := Lib.hid (fun w0 wz _ => by
    have q := value_any D0 wz (by rw [← hD0, ByteArray.size_extract]; unfold maxLen; omega);rw [show valN D0.data.toList = sy from by rw [← hD0, ex_list]; exact h_sy] at q;exact q.mono (fun _ _ z => ⟨z.1, z.2.symm⟩))
   obtain ⟨at_, h_at_⟩ : ∃ q, Sto4.n4 h 8 = q := ⟨_, rfl⟩;rw [h_at_] at hr;have l_at_ : at_ < 4294967296 := by rw [← h_at_]; exact Sto4.n4_lt _ _
   obtain ⟨D1, hD1⟩ : ∃ q : ByteArray, h.extract 8 12 = q := ⟨_, rfl⟩;have HV1 : Hid (∀ (w0 wz : World), wz = w0 → Calls Tryz.prog 63 #[.string D1] wz fun e w' => e = .returned (.int .u32 (at_ : Int)) ∧ w' = wz) := Lib.hid (fun w0 wz _ => by
    have q := value_any D1 wz (by rw [← hD1, ByteArray.size_extract]; unfold maxLen; omega);rw [show valN D1.data.toList = at_ from by rw [← hD1, ex_list]; exact h_at_] at q;exact q.mono (fun _ _ z => ⟨z.1, z.2.symm⟩))
   obtain ⟨sz, h_sz⟩ : ∃ q, Sto4.n4 h 12 = q := ⟨_, rfl⟩;rw [h_sz] at hr;have l_sz : sz < 4294967296 := by rw [← h_sz]; exact Sto4.n4_lt _ _
   obtain ⟨D2, hD2⟩ : ∃ q : ByteArray, h.extract 12 16 = q := ⟨_, rfl⟩;have HV2 : Hid (∀ (w0 wz : World), wz = w0 → Calls Tryz.prog 63 #[.string D2] wz fun e w' => e = .returned (.int .u32 (sz : Int)) ∧ w' = wz) := Lib.hid (fun w0 wz _ => by
    have q := value_any D2 wz (by rw [← hD2, ByteArray.size_extract]; unfold maxLen; omega);rw [show valN D2.data.toList = sz from by rw [← hD2, ex_list]; exact h_sz] at q;exact q.mono (fun _ _ z => ⟨z.1, z.2.symm⟩))
   obtain ⟨ck, h_ck⟩ : ∃ q, Sto4.n4 h 16 = q := ⟨_, rfl⟩;rw [h_ck] at hr;have l_ck : ck < 4294967296 := by rw [← h_ck]; exact Sto4.n4_lt _ _
   obtain ⟨D3, hD3⟩ : ∃ q : ByteArray, h.extract 16 20 = q := ⟨_, rfl⟩;have HV3 : Hid (∀ (w0 wz : World), wz = w0 → Calls Tryz.prog 63 #[.string D3] wz fun e w' => e = .returned (.int .u32 (ck : Int)) ∧ w' = wz) := Lib.hid (fun w0 wz _ => by
    have q := value_any D3 wz (by rw [← hD3, ByteArray.size_extract]; unfold maxLen; omega);rw [show valN D3.data.toList = ck from by rw [← hD3, ex_list]; exact h_ck] at q;exact q.mono (fun _ _ z => ⟨z.1, z.2.symm⟩))
   have z4 : (4 : Int) ≤ (h.size : Int) := by omega
   have y4 : 4 ≤ h.size := by omega
   have z8 : (8 : Int) ≤ (h.size : Int) := by omega
   have y8 : 8 ≤ h.size := by omega
   have z12 : (12 : Int) ≤ (h.size : Int) := by omega
   have y12 : 12 ≤ h.size := by omega
   have z16 : (16 : Int) ≤ (h.size : Int) := by omega
   have y16 : 16 ≤ h.size := by omega
   have z20 : (20 : Int) ≤ (h.size : Int) := by omega
   have y20 : 20 ≤ h.size := by omega
   have z24 : (24 : Int) ≤ (h.size : Int) := by omega
   have y24 : 24 ≤ h.size := by omega
   obtain ⟨wa1, wb1⟩ := stq (x := (at_ : Int)) ⟨by omega, by omega⟩;obtain ⟨wa2, wb2⟩ := stq (x := (sz : Int)) ⟨by omega, by omega⟩;obtain ⟨H24, hH24⟩ : ∃ q : ByteArray, h.extract 0 24 = q := ⟨_, rfl⟩;rw [hH24] at hr;clear h_sy h_at_ h_sz h_ck;go_wp2_with fail;refine (HHF.out _).mono ?_;rintro e w9 ⟨rfl, rfl⟩;clear HHF;go_wp2_with fail;refine wp_regionQ (by kernel_rfl) (by kernel_rfl) ?_;refine wpQ_yes (by kernel_rfl) (fun K hK => ?_);go_simp;refine hK _ ?_;clear hK K;refine wpQ_yes (by kernel_rfl) (fun K hK => ?_);go_simp;refine hK _ ?_;clear hK K;refine wpQ_yes (by kernel_rfl) (fun K hK => ?_);go_simp;refine ⟨_, HV0.out _ _ rfl, hK _ ?_⟩;clear hK K;refine wpQ_yes (by kernel_rfl) (fun K hK => ?_);go_simp;refine hK _ ?_;clear hK K;refine wpQ_yes (by kernel_rfl) (fun K hK => ?_);go_simp;refine hK _ ?_;clear hK K;refine wpQ_yes (by kernel_rfl) (fun K hK => ?_);go_simp;refine ⟨_, HV1.out _ _ rfl, hK _ ?_⟩;clear hK K;refine wpQ_yes (by kernel_rfl) (fun K hK => ?_);go_simp;refine hK _ ?_;clear hK K;refine wpQ_yes (by kernel_rfl) (fun K hK => ?_);go_simp;refine hK _ ?_;clear hK K;refine wpQ_yes (by kernel_rfl) (fun K hK => ?_);go_simp;refine hK _ ?_;clear hK K;refine wpQ_yes (by kernel_rfl) (fun K hK => ?_);go_simp;refine ⟨_, HV2.out _ _ rfl, hK _ ?_⟩;clear hK K;refine wpQ_yes (by kernel_rfl) (fun K hK => ?_);go_simp;refine hK _ ?_;clear hK K;refine wpQ_yes (by kernel_rfl) (fun K hK => ?_);go_simp;refine hK _ ?_;clear hK K;refine wpQ_yes (by kernel_rfl) (fun K hK => ?_);go_simp;refine hK _ ?_
   clear hK K;refine wpQ_yes (by kernel_rfl) (fun K hK => ?_);go_simp;refine ⟨_, HV3.out _ _ rfl, hK _ ?_⟩;clear hK K;refine wpQ_yes (by kernel_rfl) (fun K hK => ?_);go_simp;refine hK _ ?_;clear hK K;refine wpQ_yes (by kernel_rfl) (fun K hK => ?_);go_simp;refine hK _ ?_;clear hK K;refine wpQ_yes (by kernel_rfl) (fun K hK => ?_);go_simp;refine hK _ ?_;clear hK K;refine wpQ_yes (by kernel_rfl) (fun K hK => ?_);go_simp;refine hK _ ?_;clear hK K;refine wpQ_nil ?_;clear HV0 HV1 HV2 HV3 hD0 hD1 hD2 hD3 z4 z8 z12 z16 z20 y4 y8 y12 y16 y20;obtain ⟨w2, hw2⟩ : ∃ z, w1.drew = z := ⟨_, rfl⟩;have X2 : Hid (Ext w w2) := Lib.hid (by rw [← hw2]; exact X1.out.trans (Below.drew (Ext.refl w1)));rw [hw2];clear hw2 X1;obtain ⟨HH, hHH⟩ : ∃ q, Sto4.hd sy at_ sz ck = q := ⟨_, rfl⟩;rw [hHH] at hr;have HHD := Lib.hid (fun w => head_any sy at_ sz ck w l_sy l_at_ l_sz l_ck);rw [hHH] at HHD;clear hHH;obtain ⟨hf2, hhf⟩ : ∃ q, (n - 2) / 2 = q := ⟨_, rfl⟩;have HHF := Lib.hid hhf;rw [hhf] at hr;have hf2b : 3 ≤ hf2 ∧ hf2 ≤ 1999 ∧ 2 * hf2 ≤ n - 2 := by have := HN.out; omega
   obtain ⟨h6, hh6⟩ : ∃ q, hf2 * 64 = q := ⟨_, rfl⟩;rw [hh6] at hr;have e1 : (hf2 : Int) * 64 = (h6 : Int) := by omega
   obtain ⟨wa3, wb3⟩ := stq (x := (h6 : Int)) ⟨by omega, by omega⟩;have H6 := Lib.hid hh6;clear hhf hh6;have X_0 := X2;clear X2;by_cases hne : HH = H24
   ·as_aux_lemma =>
     have t1 : (HH.toList == H24.toList) = true := by rw [hne]; simp
     by_cases ha : 1 < at_
     ·as_aux_lemma =>
       have t2 : decide ((1 : Int) < (at_ : Int)) = true := decide_eq_true (by omega);rw [if_pos (.inr (.inl ha))] at hr;subst hr;clear hne;go_upto_region 5 with fail;refine wp_region_held_drew (S := fun w' => True) (by kernel_rfl) trivial (fun hHeld => ?_);clear hHeld;refine anyH_world (fun wz => Ext w2 wz) (show Ext w2 w2.drew from Below.drew (Ext.refl w2)) ?_;rintro x1 h;have X_1 := Lib.hid (X_0.out.trans h);clear h X_0;have hHeld : True := trivial;refine tkH 0 (v := ?_) rfl hHeld ?_ ?_;rotate_left
       ·intro w hSw;(try dsimp only at hSw);go_split_ands;go_simp;(try with_reducible rfl)
       (try simp only [Act.put, xa, xb, xc, xd, xe, xf]);refine tkH 1 (v := ?_) rfl hHeld ?_ ?_;rotate_left
       ·intro w hSw;(try dsimp only at hSw);go_split_ands;go_simp;(try with_reducible rfl)
       (try simp only [Act.put, xa, xb, xc, xd, xe, xf]);refine tkH 2 (v := ?_) rfl hHeld ?_ ?_;rotate_left
       ·intro w hSw;(try dsimp only at hSw);go_split_ands;go_simp;(try with_reducible rfl)
       (try simp only [Act.put, xa, xb, xc, xd, xe, xf]);refine tkH 3 (v := ?_) rfl hHeld ?_ ?_;rotate_left
       ·intro w hSw;(try dsimp only at hSw);go_split_ands;go_simp;(try with_reducible rfl)
       (try simp only [Act.put, xa, xb, xc, xd, xe, xf]);refine tkH 5 (v := ?_) rfl hHeld ?_ ?_;rotate_left
       ·intro w hSw;(try dsimp only at hSw);go_split_ands;go_simp;(try with_reducible rfl)
       (try simp only [Act.put, xa, xb, xc, xd, xe, xf]);refine tkH 6 (v := ?_) rfl hHeld ?_ ?_;rotate_left
       ·intro w hSw;(try dsimp only at hSw);go_split_ands;go_simp;(try with_reducible rfl)
       (try simp only [Act.put, xa, xb, xc, xd, xe, xf]);refine wpAnyH_ready (rs := [4]) (by kernel_rfl) (by simp) ?_;refine AllReadyH.cons rfl (fun KK hK => ?_) AllReadyH.nil;clear hHeld;go_simp;refine (HHD.out x1).mono ?_;rintro e x2 ⟨rfl, h⟩;have X_2 := Lib.hid (X_1.out.trans h);clear h X_1;go_simp;refine hK.out _ _ trivial (fun hHeld => ?_);clear hK KK;(try simp only [Act.put, xa, xb, xc, xd, xe, xf]);refine tkH 7 (v := ?_) rfl hHeld ?_ ?_;rotate_left
       ·intro w hSw;(try dsimp only at hSw);go_split_ands;go_simp;(try with_reducible rfl)
       (try simp only [Act.put, xa, xb, xc, xd, xe, xf]);refine tkH 8 (v := ?_) rfl hHeld ?_ ?_;rotate_left
       ·intro w hSw;(try dsimp only at hSw);go_split_ands;go_simp;(try with_reducible rfl)
       (try simp only [Act.put, xa, xb, xc, xd, xe, xf]);refine tkH 9 (v := ?_) rfl hHeld ?_ ?_;rotate_left
       ·intro w hSw;(try dsimp only at hSw);go_split_ands;go_simp;(try with_reducible rfl)
       (try simp only [Act.put, xa, xb, xc, xd, xe, xf]);refine tkH 10 (v := ?_) rfl hHeld ?_ ?_;rotate_left
       ·intro w hSw;(try dsimp only at hSw);go_split_ands;go_simp;(try with_reducible rfl)
       (try simp only [Act.put, xa, xb, xc, xd, xe, xf]);refine tkH 11 (v := ?_) rfl hHeld ?_ ?_;rotate_left
       ·intro w hSw;(try dsimp only at hSw);go_split_ands;go_simp;(try with_reducible rfl)
       (try simp only [Act.put, xa, xb, xc, xd, xe, xf]);refine tkH 12 (v := ?_) rfl hHeld ?_ ?_;rotate_left
       ·intro w hSw;(try dsimp only at hSw);go_split_ands;go_simp;(try with_reducible rfl)
       (try simp only [Act.put, xa, xb, xc, xd, xe, xf]);refine wpAnyH_take (i := 13) (v := undef) rfl (by kernel_rfl) (by kernel_rfl) (by kernel_rfl) (fun _ _ _ h => h) (Or.inr ⟨by kernel_rfl, rfl⟩) hHeld ?_;(try simp only [Act.put, xa, xb, xc, xd, xe, xf]);refine wpAnyH_take (i := 14) (v := undef) rfl (by kernel_rfl) (by kernel_rfl) (by kernel_rfl) (fun _ _ _ h => h) (Or.inr ⟨by kernel_rfl, rfl⟩) hHeld ?_;(try simp only [Act.put, xa, xb, xc, xd, xe, xf]);refine wpAnyH_take (i := 15) (v := undef) rfl (by kernel_rfl) (by kernel_rfl) (by kernel_rfl) (fun _ _ _ h => h) (Or.inr ⟨by kernel_rfl, rfl⟩) hHeld ?_;(try simp only [Act.put, xa, xb, xc, xd, xe, xf]);refine wpAnyH_take (i := 16) (v := undef) rfl (by kernel_rfl) (by kernel_rfl) (by kernel_rfl) (fun _ _ _ h => h) (Or.inr ⟨by kernel_rfl, rfl⟩) hHeld ?_;(try simp only [Act.put, xa, xb, xc, xd, xe, xf]);refine wpAnyH_take (i := 17) (v := undef) rfl (by kernel_rfl) (by kernel_rfl) (by kernel_rfl) (fun _ _ _ h => h) (Or.inr ⟨by kernel_rfl, rfl⟩) hHeld ?_;(try simp only [Act.put, xa, xb, xc, xd, xe, xf]);refine tkH 18 (v := ?_) rfl hHeld ?_ ?_;rotate_left
       ·intro w hSw;(try dsimp only at hSw);go_split_ands;go_simp;(try with_reducible rfl)
       (try simp only [Act.put, xa, xb, xc, xd, xe, xf]);refine wpAnyH_done (by kernel_rfl) ?_ _;clear hHeld;go_wp2_with fail;go_ret2;exact ⟨X_2.out, rfl⟩
     ·as_aux_lemma =>
       have t2 : decide ((1 : Int) < (at_ : Int)) = false := decide_eq_false (by omega);by_cases hz : h6 < sz
       ·as_aux_lemma =>
         have t3 : decide ((h6 : Int) < (sz : Int)) = true := decide_eq_true (by omega);have n3 : h6 < sz := hz;rw [if_pos (.inr (.inr hz))] at hr;subst hr;clear hne;go_upto_region 5 with fail;refine wp_region_held_drew (S := fun w' => True) (by kernel_rfl) trivial (fun hHeld => ?_);clear hHeld;refine anyH_world (fun wz => Ext w2 wz) (show Ext w2 w2.drew from Below.drew (Ext.refl w2)) ?_;rintro x1 h;have X_1 := Lib.hid (X_0.out.trans h);clear h X_0;have hHeld : True := trivial;refine tkH 0 (v := ?_) rfl hHeld ?_ ?_;rotate_left
         ·intro w hSw;(try dsimp only at hSw);go_split_ands;go_simp;(try with_reducible rfl)
         (try simp only [Act.put, xa, xb, xc, xd, xe, xf]);refine tkH 1 (v := ?_) rfl hHeld ?_ ?_;rotate_left
         ·intro w hSw;(try dsimp only at hSw);go_split_ands;go_simp;(try with_reducible rfl)
         (try simp only [Act.put, xa, xb, xc, xd, xe, xf]);refine tkH 2 (v := ?_) rfl hHeld ?_ ?_;rotate_left
         ·intro w hSw;(try dsimp only at hSw);go_split_ands;go_simp;(try with_reducible rfl)
         (try simp only [Act.put, xa, xb, xc, xd, xe, xf]);refine tkH 3 (v := ?_) rfl hHeld ?_ ?_;rotate_left
         ·intro w hSw;(try dsimp only at hSw);go_split_ands;go_simp;(try with_reducible rfl)
         (try simp only [Act.put, xa, xb, xc, xd, xe, xf]);refine tkH 5 (v := ?_) rfl hHeld ?_ ?_;rotate_left
         ·intro w hSw;(try dsimp only at hSw);go_split_ands;go_simp;(try with_reducible rfl)
         (try simp only [Act.put, xa, xb, xc, xd, xe, xf]);refine tkH 6 (v := ?_) rfl hHeld ?_ ?_;rotate_left
         ·intro w hSw;(try dsimp only at hSw);go_split_ands;go_simp;(try with_reducible rfl)
         (try simp only [Act.put, xa, xb, xc, xd, xe, xf]);refine wpAnyH_ready (rs := [4]) (by kernel_rfl) (by simp) ?_;refine AllReadyH.cons rfl (fun KK hK => ?_) AllReadyH.nil;clear hHeld;go_simp;refine (HHD.out x1).mono ?_;rintro e x2 ⟨rfl, h⟩;have X_2 := Lib.hid (X_1.out.trans h);clear h X_1;go_simp;refine hK.out _ _ trivial (fun hHeld => ?_);clear hK KK;(try simp only [Act.put, xa, xb, xc, xd, xe, xf]);refine tkH 7 (v := ?_) rfl hHeld ?_ ?_;rotate_left
         ·intro w hSw;(try dsimp only at hSw);go_split_ands;go_simp;(try with_reducible rfl)
         (try simp only [Act.put, xa, xb, xc, xd, xe, xf]);refine tkH 8 (v := ?_) rfl hHeld ?_ ?_;rotate_left
         ·intro w hSw;(try dsimp only at hSw);go_split_ands;go_simp;(try with_reducible rfl)
         (try simp only [Act.put, xa, xb, xc, xd, xe, xf]);refine tkH 9 (v := ?_) rfl hHeld ?_ ?_;rotate_left
         ·intro w hSw;(try dsimp only at hSw);go_split_ands;go_simp;(try with_reducible rfl)
         (try simp only [Act.put, xa, xb, xc, xd, xe, xf]);refine tkH 10 (v := ?_) rfl hHeld ?_ ?_;rotate_left
         ·intro w hSw;(try dsimp only at hSw);go_split_ands;go_simp;(try with_reducible rfl)
         (try simp only [Act.put, xa, xb, xc, xd, xe, xf]);refine tkH 11 (v := ?_) rfl hHeld ?_ ?_;rotate_left
         ·intro w hSw;(try dsimp only at hSw);go_split_ands;go_simp;(try with_reducible rfl)
         (try simp only [Act.put, xa, xb, xc, xd, xe, xf]);refine tkH 12 (v := ?_) rfl hHeld ?_ ?_;rotate_left
         ·intro w hSw;(try dsimp only at hSw);go_split_ands;go_simp;(try with_reducible rfl)
         (try simp only [Act.put, xa, xb, xc, xd, xe, xf]);refine tkH 13 (v := ?_) rfl hHeld ?_ ?_;rotate_left
         ·intro w hSw;(try dsimp only at hSw);go_split_ands;go_simp;(try with_reducible rfl)
         (try simp only [Act.put, xa, xb, xc, xd, xe, xf]);refine tkH 14 (v := ?_) rfl hHeld ?_ ?_;rotate_left
         ·intro w hSw;(try dsimp only at hSw);go_split_ands;go_simp;(try with_reducible rfl)
         (try simp only [Act.put, xa, xb, xc, xd, xe, xf]);refine wpAnyH_ready (rs := [15]) (by kernel_rfl) (by simp) ?_;refine AllReadyH.cons rfl (fun KK hK => ?_) AllReadyH.nil;clear hHeld;go_simp;refine (half_any d n b m S x2 (HD.out.ext X_2.out) (by omega) (by have := HN.out; omega)).mono ?_;rintro e w9 ⟨rfl, rfl⟩;rw [HHF.out];go_simp;refine hK.out _ _ trivial (fun hHeld => ?_);clear hK KK;(try simp only [Act.put, xa, xb, xc, xd, xe, xf]);refine tkH 16 (v := ?_) rfl hHeld ?_ ?_;rotate_left
         ·intro w hSw;(try dsimp only at hSw);go_split_ands;go_simp;(try with_reducible rfl)
         (try simp only [Act.put, xa, xb, xc, xd, xe, xf]);refine tkH 17 (v := ?_) rfl hHeld ?_ ?_;rotate_left
         ·intro w hSw;(try dsimp only at hSw);go_split_ands;go_simp;(try with_reducible rfl)
         (try simp only [Act.put, xa, xb, xc, xd, xe, xf]);refine tkH 18 (v := ?_) rfl hHeld ?_ ?_;rotate_left
         ·intro w hSw;(try dsimp only at hSw);go_split_ands;go_simp;(try with_reducible rfl)
         (try simp only [Act.put, xa, xb, xc, xd, xe, xf]);refine wpAnyH_done (by kernel_rfl) ?_ _;clear hHeld;go_wp2_with fail;go_ret2;exact ⟨X_2.out, rfl⟩
       ·as_aux_lemma =>
         have t3 : decide ((h6 : Int) < (sz : Int)) = false := decide_eq_false (by omega);have n3 : ¬ h6 < sz := hz;rw [if_neg (by rintro (q | q | q); exact q hne; exact ha q; exact hz q)] at hr;clear hne;go_upto_region 5 with fail;refine wp_region_held_drew (S := fun w' => True) (by kernel_rfl) trivial (fun hHeld => ?_);clear hHeld;refine anyH_world (fun wz => Ext w2 wz) (show Ext w2 w2.drew from Below.drew (Ext.refl w2)) ?_;rintro x1 h;have X_1 := Lib.hid (X_0.out.trans h);clear h X_0;have hHeld : True := trivial;refine tkH 0 (v := ?_) rfl hHeld ?_ ?_;rotate_left
         ·intro w hSw;(try dsimp only at hSw);go_split_ands;go_simp;(try with_reducible rfl)
         (try simp only [Act.put, xa, xb, xc, xd, xe, xf]);refine tkH 1 (v := ?_) rfl hHeld ?_ ?_;rotate_left
         ·intro w hSw;(try dsimp only at hSw);go_split_ands;go_simp;(try with_reducible rfl)
         (try simp only [Act.put, xa, xb, xc, xd, xe, xf]);refine tkH 2 (v := ?_) rfl hHeld ?_ ?_;rotate_left
         ·intro w hSw;(try dsimp only at hSw);go_split_ands;go_simp;(try with_reducible rfl)
         (try simp only [Act.put, xa, xb, xc, xd, xe, xf]);refine tkH 3 (v := ?_) rfl hHeld ?_ ?_;rotate_left
         ·intro w hSw;(try dsimp only at hSw);go_split_ands;go_simp;(try with_reducible rfl)
         (try simp only [Act.put, xa, xb, xc, xd, xe, xf]);refine tkH 5 (v := ?_) rfl hHeld ?_ ?_;rotate_left
         ·intro w hSw;(try dsimp only at hSw);go_split_ands;go_simp;(try with_reducible rfl)
         (try simp only [Act.put, xa, xb, xc, xd, xe, xf]);refine tkH 6 (v := ?_) rfl hHeld ?_ ?_;rotate_left
         ·intro w hSw;(try dsimp only at hSw);go_split_ands;go_simp;(try with_reducible rfl)
         (try simp only [Act.put, xa, xb, xc, xd, xe, xf]);refine wpAnyH_ready (rs := [4]) (by kernel_rfl) (by simp) ?_;refine AllReadyH.cons rfl (fun KK hK => ?_) AllReadyH.nil;clear hHeld;go_simp;refine (HHD.out x1).mono ?_;rintro e x2 ⟨rfl, h⟩;have X_2 := Lib.hid (X_1.out.trans h);clear h X_1;go_simp;refine hK.out _ _ trivial (fun hHeld => ?_);clear hK KK;(try simp only [Act.put, xa, xb, xc, xd, xe, xf]);refine tkH 7 (v := ?_) rfl hHeld ?_ ?_;rotate_left
         ·intro w hSw;(try dsimp only at hSw);go_split_ands;go_simp;(try with_reducible rfl)
         (try simp only [Act.put, xa, xb, xc, xd, xe, xf]);refine tkH 8 (v := ?_) rfl hHeld ?_ ?_;rotate_left
         ·intro w hSw;(try dsimp only at hSw);go_split_ands;go_simp;(try with_reducible rfl)
         (try simp only [Act.put, xa, xb, xc, xd, xe, xf]);refine tkH 9 (v := ?_) rfl hHeld ?_ ?_;rotate_left
         ·intro w hSw;(try dsimp only at hSw);go_split_ands;go_simp;(try with_reducible rfl)
         (try simp only [Act.put, xa, xb, xc, xd, xe, xf]);refine tkH 10 (v := ?_) rfl hHeld ?_ ?_;rotate_left
         ·intro w hSw;(try dsimp only at hSw);go_split_ands;go_simp;(try with_reducible rfl)
         (try simp only [Act.put, xa, xb, xc, xd, xe, xf]);refine tkH 11 (v := ?_) rfl hHeld ?_ ?_;rotate_left
         ·intro w hSw;(try dsimp only at hSw);go_split_ands;go_simp;(try with_reducible rfl)
         (try simp only [Act.put, xa, xb, xc, xd, xe, xf]);refine tkH 12 (v := ?_) rfl hHeld ?_ ?_;rotate_left
         ·intro w hSw;(try dsimp only at hSw);go_split_ands;go_simp;(try with_reducible rfl)
         (try simp only [Act.put, xa, xb, xc, xd, xe, xf]);refine tkH 13 (v := ?_) rfl hHeld ?_ ?_;rotate_left
         ·intro w hSw;(try dsimp only at hSw);go_split_ands;go_simp;(try with_reducible rfl)
         (try simp only [Act.put, xa, xb, xc, xd, xe, xf]);refine tkH 14 (v := ?_) rfl hHeld ?_ ?_;rotate_left
         ·intro w hSw;(try dsimp only at hSw);go_split_ands;go_simp;(try with_reducible rfl)
         (try simp only [Act.put, xa, xb, xc, xd, xe, xf]);refine wpAnyH_ready (rs := [15]) (by kernel_rfl) (by simp) ?_;refine AllReadyH.cons rfl (fun KK hK => ?_) AllReadyH.nil;clear hHeld;go_simp;refine (half_any d n b m S x2 (HD.out.ext X_2.out) (by omega) (by have := HN.out; omega)).mono ?_;rintro e w9 ⟨rfl, rfl⟩;rw [HHF.out];go_simp;refine hK.out _ _ trivial (fun hHeld => ?_);clear hK KK;(try simp only [Act.put, xa, xb, xc, xd, xe, xf]);refine tkH 16 (v := ?_) rfl hHeld ?_ ?_;rotate_left
         ·intro w hSw;(try dsimp only at hSw);go_split_ands;go_simp;(try with_reducible rfl)
         (try simp only [Act.put, xa, xb, xc, xd, xe, xf]);refine tkH 17 (v := ?_) rfl hHeld ?_ ?_;rotate_left
         ·intro w hSw;(try dsimp only at hSw);go_split_ands;go_simp;(try with_reducible rfl)
         (try simp only [Act.put, xa, xb, xc, xd, xe, xf]);refine tkH 18 (v := ?_) rfl hHeld ?_ ?_;rotate_left
         ·intro w hSw;(try dsimp only at hSw);go_split_ands;go_simp;(try with_reducible rfl)
         (try simp only [Act.put, xa, xb, xc, xd, xe, xf]);refine wpAnyH_done (by kernel_rfl) ?_ _;clear hHeld;clear t1 t2 t3 n3 z24 y24 hH24 wa3 wb3 e1 HHD;have XA := X_2;clear X_2;obtain ⟨ah, hah⟩ : ∃ q, at_ * hf2 = q := ⟨_, rfl⟩;have hahb : ah ≤ hf2 := by rw [← hah]; exact Nat.le_trans (Nat.mul_le_mul_right _ (show at_ ≤ 1 by omega)) (by omega)
         rw [hah] at hr;obtain ⟨base, hbase⟩ : ∃ q, 2 + ah = q := ⟨_, rfl⟩;rw [hbase] at hr;have mah : (at_ : Int) * (hf2 : Int) = (ah : Int) := by rw [← hah]; push_cast; rfl
         have mb0 : (2 : Int) + (ah : Int) = (base : Int) := by omega
         obtain ⟨wc1, wd1⟩ := stq (x := (ah : Int)) ⟨by omega, by omega⟩;obtain ⟨wc2, wd2⟩ := stq (x := (base : Int)) ⟨by omega, by omega⟩;have HBS := Lib.hid (And.intro hah hbase);clear hah hbase;obtain ⟨K, hK⟩ : ∃ q, (sz + 63) / 64 = q := ⟨_, rfl⟩;have hKb : K ≤ hf2 := by have := H6.out; omega
         have HK := Lib.hid hK;clear hK;go_upto_region 8 with fail;refine wp_world (fun wz => Ext w wz ∧ BldZ x2.heap.size x2.heap.size [] wz) ⟨XA.out.trans ((Ext.refl x2).alloc _), BldZ.fresh x2⟩ ?_;rintro v1 ⟨hX, hB⟩;obtain ⟨B, hB0⟩ : ∃ q, x2.heap.size = q := ⟨_, rfl⟩;have HWB : Hid (w.heap.size ≤ B) := Lib.hid (by rw [← hB0]; exact XA.out.size);rw [hB0] at hB ⊢;have X1 := Lib.hid hX;have B1 := Lib.hid hB;clear hX hB hB0 XA;go_wp2_with fail;go_loopw [13] (fun kv wr => ∃ k : Nat, kv = .int .i64 (k : Int) ∧ k ≤ K ∧ Hid (Ext w wr) ∧ Hid (BldZ B B (Sto4.datL m.now base k) wr)) (fun kv _ => K - (intOf kv).toNat)
         case atStart => exact ⟨0, rfl, by omega, X1, B1⟩
         case round =>
          clear X1 B1;obtain ⟨k, rfl, hk, HX, HBZ⟩ := hrel;obtain ⟨k64, hk64⟩ : ∃ q, k * 64 = q := ⟨_, rfl⟩;have e3 : (k : Int) * 64 = (k64 : Int) := by omega
          obtain ⟨we1, wf1⟩ := stq (x := (k64 : Int)) ⟨by omega, by omega⟩;have HLT : Hid (k < K ↔ k64 < sz) := Lib.hid (by have := HK.out; omega);clear hk64;by_cases hlt : k < K
          ·as_aux_lemma =>
            have t1 : decide ((k64 : Int) < (sz : Int)) = true := decide_eq_true (by have := HLT.out.1 hlt; omega);have n1 : k64 < sz := HLT.out.1 hlt;obtain ⟨bk, hbk⟩ : ∃ q, base + k = q := ⟨_, rfl⟩;have e4 : (base : Int) + (k : Int) = (bk : Int) := by omega
            obtain ⟨wg1, wh1⟩ := stq (x := (bk : Int)) ⟨by omega, by omega⟩;have hbn : bk < n := by have := HBS.out.2; omega
            obtain ⟨kp, hkp⟩ : ∃ q, k + 1 = q := ⟨_, rfl⟩;have e5 : (k : Int) + 1 = (kp : Int) := by omega
            obtain ⟨wg2, wh2⟩ := stq (x := (kp : Int)) ⟨by omega, by omega⟩;obtain ⟨u, hu⟩ : ∃ q, m.now bk = q := ⟨_, rfl⟩;have hu64 : u.size = 64 := by rw [← hu]; exact H64.out bk hbn
            have HU := Lib.hid (And.intro hu (And.intro hbk hkp));have HHA := Lib.hid (half_any d n b m S wr (HD.out.ext HX.out) (by omega) (by have := HN.out; omega));rw [HHF.out] at HHA;have HRD := Lib.hid (read_any d n b m (bk : Int) S wr E (HED.out.ext HX.out) (HD.out.ext HX.out));clear hbk hkp;go_wp2_with fail;refine HHA.out.mono ?_;rintro e w8 ⟨rfl, rfl⟩;clear HHA;go_wp2_with fail;refine HRD.out.mono ?_;rintro e w5 ⟨he, hX⟩;have he2 : e = .returned (.tuple #[.string u, .nilIface]) := by
             rcases he with ⟨hc, _⟩ | ⟨q, hq, _, rfl⟩
             ·omega
             ·have hq2 : q = bk := by omega
              rw [hq2, hu]
            subst he2;have X5 := Lib.hid (HX.out.trans hX);have B5 := Lib.hid (HBZ.out.ext hX);clear he hX HRD HX HBZ hu;have hdl : (Sto4.datL m.now base k).length = k * 64 := datL_len (fun j hj => H64.out _ (by have := HBS.out.2; omega));have HWR := Lib.hid (bld_write B B (Sto4.datL m.now base k) u w5 B5.out.1 (by rw [hdl]; omega) (Nat.le_of_lt B5.out.1.lt));clear hdl;go_wp2_with fail;refine HWR.out.mono ?_;rintro e w6 ⟨rfl, hBl, hBe, _⟩;have X6 : Hid (Ext w w6) := Lib.hid (Below.trans X5.out (Below.mono hBe HWB.out));have B6 : Hid (BldZ B B (Sto4.datL m.now base kp) w6) := Lib.hid (by
             rw [← HU.out.2.2];show BldZ B B (Sto4.datL m.now base k ++ (m.now (base + k)).data.toList) w6;rw [HU.out.2.1, HU.out.1];refine BldZ.of hBl (fun e => ?_);have := congrArg List.length e;rw [List.length_append] at this;have e2 : u.data.toList.length = 64 := hu64;rw [e2] at this;simp at this)
            clear hBl hBe HWR X5 B5;go_wp2_with fail;go_roundw
            case rel => exact ⟨kp, by first | rfl | go_num, by have := HU.out.2.2; omega, X6, B6⟩
            case measure => have := HU.out.2.2; simp [intOf]; omega
          ·as_aux_lemma =>
            obtain rfl : k = K := by omega
            have t1 : decide ((k64 : Int) < (sz : Int)) = false := decide_eq_false (fun q => hlt (HLT.out.2 (by omega)));have n1 : ¬ k64 < sz := fun q => hlt (HLT.out.2 q);have HBS2 := Lib.hid (bldz_string B B (Sto4.datL m.now base k) wr HBZ.out);obtain ⟨DD, hDD⟩ : ∃ q : ByteArray, ⟨(Sto4.datL m.now base k).toArray⟩ = q := ⟨_, rfl⟩;rw [hDD] at HBS2;have hdl : (Sto4.datL m.now base k).length = k * 64 := datL_len (fun j hj => H64.out _ (by have := HBS.out.2; omega));have hds : DD.size = k * 64 := by rw [← hDD]; show (Sto4.datL m.now base k).toArray.size = _; rw [List.size_toArray, hdl]
            have z1 : (sz : Int) ≤ (DD.size : Int) := by have := HK.out; omega
            have z2 : sz ≤ DD.size := by have := HK.out; omega
            have z3 : (0 : Int) ≤ (sz : Int) := by omega
            obtain ⟨rs, hrs⟩ : ∃ q : ByteArray, DD.extract 0 sz = q := ⟨_, rfl⟩;have hrr : Sto4.rest m.now base sz = rs := by
             unfold Sto4.rest;rw [HK.out, ← hrs];apply Tx.key_inj;show (Sto4.datL m.now base k).take sz = (DD.extract 0 sz).data.toList;rw [ex_list, List.drop_zero, Nat.sub_zero, ← hDD]
            rw [hrr] at hr;have hrz : rs.size = sz := by rw [← hrs, ByteArray.size_extract]; omega
            have HRZ := Lib.hid hrz;clear hDD hdl hds hrr HBZ;go_wp2_with fail;refine HBS2.out.mono ?_;rintro e w3 ⟨rfl, hBe⟩;have X3 : Hid (Ext w w3) := Lib.hid (Below.trans HX.out (Below.mono hBe HWB.out));clear hBe HBS2 HX;go_upto_region 14 with fail;clear z1 z2 z3 t1 n1 hrs;refine wp_world (fun wz => Ext w wz ∧ Bk wz w3.heap.size #[.string rs]) ?hw ?_
            case hw => exact ⟨X3.out.trans (by repeat (first | exact Ext.refl _ | refine Ext.alloc ?_ _ | refine Below.setCell ?_ (by simp <;> omega) _)), Bk.at (by simp)⟩
            rintro w4 ⟨hX, hT⟩;obtain ⟨T, hTq⟩ : ∃ q, w3.heap.size = q := ⟨_, rfl⟩;have HWT : Hid (w.heap.size ≤ T) := Lib.hid (by rw [← hTq]; exact X3.out.size);rw [hTq] at hT ⊢;have X4 := Lib.hid hX;have T4 := Lib.hid hT;clear hX hT hTq X3;obtain ⟨cr, hcr⟩ : ∃ q, Crc.crc rs.data.toList = q := ⟨_, rfl⟩;have HCR := Lib.hid (fun w => crc_any rs w (by unfold maxLen; have := H6.out; omega));rw [hcr] at HCR hr;clear hcr;have c0 := T4.out.cell 0;go_wp2_with fail;refine (HCR.out _).mono ?_;rintro e w5 ⟨rfl, hX⟩;have X5 := Lib.hid (X4.out.trans hX);have T5 := Lib.hid (T4.out.ext hX);clear hX X4 T4 HCR c0;by_cases hc : cr = ck
            ·as_aux_lemma =>
              have t1 : ((cr : Int) != (ck : Int)) = false := int_eq2 (by omega);rw [if_neg (fun q => q hc)] at hr;clear hc;have hmm := @run_makeMap Tryz.prog;go_upto_block 2 with fail;clear t1 hmm;refine wp_world (fun wz => Ext w5 wz ∧ TM wz w5.heap.size 0 [] ∧ Bk wz (w5.heap.size + 1) (stV d w5.heap.size sy at_ false)) ?hw ?_
              case hw => exact ⟨((Ext.refl w5).alloc _).alloc _, (TM.new w5).ext ((Ext.refl _).alloc _), Bk.at (by simp)⟩
              rintro w6 ⟨hX, hM, hB⟩;obtain ⟨mb, hmb⟩ : ∃ q, w5.heap.size = q := ⟨_, rfl⟩;obtain ⟨s, hs⟩ : ∃ q, mb + 1 = q := ⟨_, rfl⟩;rw [hmb, hs] at hB;rw [hmb] at hM ⊢;(try rw [hs]);have HMS : Hid (mb + 1 = s ∧ T < mb ∧ w.heap.size ≤ mb) := Lib.hid ⟨hs, by rw [← hmb]; exact T5.out.lt, by rw [← hmb]; exact X5.out.size⟩;have X6 := Lib.hid (X5.out.trans hX);have T6 := Lib.hid (T5.out.ext hX);have M6 := Lib.hid hM;have B6 := Lib.hid hB;clear hX hM hB hmb hs X5 T5;have HTK : Hid ((Sto4.tk rs).map (fun l => (sy, at_, l)) = r) := Lib.hid hr;clear hr;have hrz : rs.size ≤ 127936 := by rw [HRZ.out]; have := H6.out; omega
              go_wp2_with fail;go_loopw [] (fun wr => ∃ (t : ByteArray) (acc : List Ck), Hid (Ext w wr ∧ Bk wr T #[.string t] ∧ TM wr mb acc.length (Sto4.putAll acc) ∧ Bk wr s (stV d mb sy at_ false)) ∧ Hid (Sto4.tk rs = (Sto4.tk t).map (fun l => acc ++ l)) ∧ t.size + acc.length ≤ rs.size) (fun wr => lenAt wr T)
              case atStart => exact ⟨rs, [], Lib.hid ⟨X6.out, T6.out, M6.out, B6.out⟩, Lib.hid (by cases Sto4.tk rs <;> simp), by simp⟩
              case round =>
               clear X6 T6 M6 B6;obtain ⟨t, acc, HW, HP, hts⟩ := hrel;have c0 := HW.out.2.1.cell 0;have HLN : Hid (lenAt wr T = t.size) := Lib.hid (lenAt_of (HW.out.2.1.cell 0));by_cases h0 : t.size = 0
               ·as_aux_lemma =>
                 have hte : t = ⟨#[]⟩ := Tx.key_inj (List.eq_nil_of_length_eq_zero h0);have HTE := Lib.hid hte;have v1 : (t.toList == []) = true := by rw [hte, ByteArray.toList_eq]; rfl
                 have v2 : t.toList.isEmpty = true := by rw [hte, ByteArray.toList_eq]; rfl
                 clear hte;go_wp2_with fail;go_ret2;have hr : (some (sy, at_, acc)) = r := by rw [← HTK.out, HP.out, Sto4.tk_nil h0]; simp
                 subst hr;exact ⟨HW.out.1, s, mb, rfl, HW.out.2.2.2, HW.out.2.2.1, by have := HMS.out; omega, HMS.out.2.2, by have := HMS.out; omega⟩
               ·as_aux_lemma =>
                 have hne : t.toList ≠ [] := fun e => h0 (by have := congrArg List.length e; rw [ByteArray.toList_eq] at this; exact this);have v1 : (t.toList == []) = false := beq_eq_false_iff_ne.2 hne;have v2 : t.toList.isEmpty = false := by cases q : t.toList.isEmpty; rfl; exact absurd (List.isEmpty_iff.1 q) hne
                 clear hne;obtain ⟨r1, hr1⟩ : ∃ q, takeL t = q := ⟨_, rfl⟩;have HTA := Lib.hid (take_any T t wr (HW.out.2.1.cell 0) (HW.out.2.1.frozen 0) (by omega));rw [hr1] at HTA;have HR1 := Lib.hid hr1;have HNE := Lib.hid h0;go_wp2_with fail;refine HTA.out.mono ?_;rintro e z1 hta;clear HTA h0 v1 v2 c0;cases r1 with
                 | none =>
                  obtain ⟨he, hz1⟩ : e = .returned (.tuple #[.string ⟨#[]⟩, .bool false]) ∧ z1 = wr := hta;subst he;obtain rfl := hz1.symm;have HTB := Lib.hid (take_any T t wr (HW.out.2.1.cell 0) (HW.out.2.1.frozen 0) (by omega));rw [hr1] at HTB;clear hr1;go_wp2_with fail;refine HTB.out.mono ?_;rintro e z2 hta;obtain ⟨he, hz2⟩ : e = .returned (.tuple #[.string ⟨#[]⟩, .bool false]) ∧ z2 = wr := hta;subst he;obtain rfl := hz2.symm;clear HTB;have hr : none = r := by rw [← HTK.out, HP.out, Sto4.tk_no1 HNE.out HR1.out]; rfl
                  subst hr;go_wp2_with fail;go_ret2;exact ⟨HW.out.1, rfl⟩
                 | some q1 =>
                  obtain ⟨a, t1⟩ := q1;obtain ⟨he, hz1⟩ : e = .returned (.tuple #[.string a, .bool true]) ∧ z1 = wr.setCell ⟨T, 0, none⟩ (.string t1) := hta;subst he;have hl1 := takeL_lt HR1.out;have hTa : a.size ≤ t.size := by have h := HR1.out; unfold takeL at h; split at h; cases h; split at h; cases h; injection h with h; injection h with h1 h2; rw [← h1, ByteArray.size_extract]; omega
                  have HKz : Hid (Keeps (fun k => k = T) wr z1) := Lib.hid (by rw [hz1]; exact (Keeps.refl (fun k => k = T) wr).setCell (.inl rfl) _);have HW1 : Hid (Ext w z1 ∧ Bk z1 T #[.string t1] ∧ TM z1 mb acc.length (Sto4.putAll acc) ∧ Bk z1 s (stV d mb sy at_ false)) := Lib.hid (by
                   obtain ⟨a1, a2, a3, a4⟩ := HW.out;have hm := HMS.out;refine ⟨?_, ?_, a3.keeps HKz.out (by omega), a4.keeps HKz.out (by omega)⟩
                   ·rw [hz1]; exact a1.setCell (by exact HWT.out) _
                   ·rw [hz1]; exact a2.set_ 0 _)
                  clear hz1 hr1 HKz HW;obtain ⟨r2, hr2⟩ : ∃ q, takeL t1 = q := ⟨_, rfl⟩;have HTB := Lib.hid (take_any T t1 z1 (HW1.out.2.1.cell 0) (HW1.out.2.1.frozen 0) (by omega));rw [hr2] at HTB;have HR2 := Lib.hid hr2;go_wp2_with fail;refine HTB.out.mono ?_;rintro e z2 hta;clear HTB hr2;cases r2 with
                  | none =>
                   obtain ⟨he, hz2⟩ : e = .returned (.tuple #[.string ⟨#[]⟩, .bool false]) ∧ z2 = z1 := hta;subst he;obtain rfl := hz2.symm;have hr : none = r := by rw [← HTK.out, HP.out, Sto4.tk_no2 HNE.out HR1.out HR2.out]; rfl
                   subst hr;go_wp2_with fail;go_ret2;exact ⟨HW1.out.1, rfl⟩
                  | some q2 =>
                   obtain ⟨b2, t2⟩ := q2;obtain ⟨he, hz2⟩ : e = .returned (.tuple #[.string b2, .bool true]) ∧ z2 = z1.setCell ⟨T, 0, none⟩ (.string t2) := hta;subst he;have hl2 := takeL_lt HR2.out;have hTb : b2.size ≤ t1.size := by have h := HR2.out; unfold takeL at h; split at h; cases h; split at h; cases h; injection h with h; injection h with h1 h2; rw [← h1, ByteArray.size_extract]; omega
                   have HKz : Hid (Keeps (fun k => k = T) z1 z2) := Lib.hid (by rw [hz2]; exact (Keeps.refl (fun k => k = T) z1).setCell (.inl rfl) _);have HW2 : Hid (Ext w z2 ∧ Bk z2 T #[.string t2] ∧ TM z2 mb acc.length (Sto4.putAll acc) ∧ Bk z2 s (stV d mb sy at_ false)) := Lib.hid (by
                    obtain ⟨a1, a2, a3, a4⟩ := HW1.out;have hm := HMS.out;refine ⟨?_, ?_, a3.keeps HKz.out (by omega), a4.keeps HKz.out (by omega)⟩
                    ·rw [hz2]; exact a1.setCell (by exact HWT.out) _
                    ·rw [hz2]; exact a2.set_ 0 _)
                   clear hz2 HKz HW1;obtain ⟨z3, hst, hT3, hK3, _⟩ := HW2.out.2.2.1.store a b2 (by unfold maxLen; omega) (by unfold maxLen; omega) (by unfold maxLen; omega);have HW3 : Hid (Ext w z3 ∧ Bk z3 T #[.string t2] ∧ TM z3 mb (acc ++ [(⟨a, b2⟩ : Ck)]).length (Sto4.putAll (acc ++ [(⟨a, b2⟩ : Ck)])) ∧ Bk z3 s (stV d mb sy at_ false)) := Lib.hid (by
                    obtain ⟨a1, a2, a3, a4⟩ := HW2.out;have hm := HMS.out;refine ⟨?_, a2.keeps hK3 (by omega), ?_, a4.keeps hK3 (by omega)⟩
                    ·exact Below.trans a1 (hK3.below a1.size (fun k hk q => by omega))
                    ·rw [Sto4.putAll_snoc, List.length_append]; exact hT3)
                   have HPN : Hid (Sto4.tk rs = (Sto4.tk t2).map (fun l => (acc ++ [(⟨a, b2⟩ : Ck)]) ++ l)) := Lib.hid (by
                    rw [HP.out, Sto4.tk_go HNE.out HR1.out HR2.out, Option.map_map];congr 1
                    funext l
                    simp)
                   have c1 := HW2.out.2.2.2.cell 1;clear hT3 hK3;go_wp2_with fail;go_roundw
                   case rel => exact ⟨t2, acc ++ [(⟨a, b2⟩ : Ck)], HW3, HPN, by rw [List.length_append]; simp; omega⟩
                   case measure =>
                    rw [HLN.out, lenAt_of (HW3.out.2.1.cell 0)];omega
            ·as_aux_lemma =>
              have t1 : ((cr : Int) != (ck : Int)) = true := int_ne2 (by omega);have n1 : ¬ cr = ck := hc;rw [if_pos hc] at hr;subst hr;go_wp2_with fail;go_ret2;exact ⟨X5.out, rfl⟩
   ·as_aux_lemma =>
     have t1 : (HH.toList == H24.toList) = false := beq_eq_false_iff_ne.2 (fun e => hne (Tx.key_inj (by unfold Tx.key; rw [← ByteArray.toList_eq, ← ByteArray.toList_eq]; exact e)));rw [if_pos (.inl hne)] at hr;subst hr;clear hne;go_upto_region 5 with fail;refine wp_region_held_drew (S := fun w' => True) (by kernel_rfl) trivial (fun hHeld => ?_);clear hHeld;refine anyH_world (fun wz => Ext w2 wz) (show Ext w2 w2.drew from Below.drew (Ext.refl w2)) ?_;rintro x1 h;have X_1 := Lib.hid (X_0.out.trans h);clear h X_0;have hHeld : True := trivial;refine tkH 0 (v := ?_) rfl hHeld ?_ ?_;rotate_left
     ·intro w hSw;(try dsimp only at hSw);go_split_ands;go_simp;(try with_reducible rfl)
     (try simp only [Act.put, xa, xb, xc, xd, xe, xf]);refine tkH 1 (v := ?_) rfl hHeld ?_ ?_;rotate_left
     ·intro w hSw;(try dsimp only at hSw);go_split_ands;go_simp;(try with_reducible rfl)
     (try simp only [Act.put, xa, xb, xc, xd, xe, xf]);refine tkH 2 (v := ?_) rfl hHeld ?_ ?_;rotate_left
     ·intro w hSw;(try dsimp only at hSw);go_split_ands;go_simp;(try with_reducible rfl)
     (try simp only [Act.put, xa, xb, xc, xd, xe, xf]);refine tkH 3 (v := ?_) rfl hHeld ?_ ?_;rotate_left
     ·intro w hSw;(try dsimp only at hSw);go_split_ands;go_simp;(try with_reducible rfl)
     (try simp only [Act.put, xa, xb, xc, xd, xe, xf]);refine tkH 5 (v := ?_) rfl hHeld ?_ ?_;rotate_left
     ·intro w hSw;(try dsimp only at hSw);go_split_ands;go_simp;(try with_reducible rfl)
     (try simp only [Act.put, xa, xb, xc, xd, xe, xf]);refine tkH 6 (v := ?_) rfl hHeld ?_ ?_;rotate_left
     ·intro w hSw;(try dsimp only at hSw);go_split_ands;go_simp;(try with_reducible rfl)
     (try simp only [Act.put, xa, xb, xc, xd, xe, xf]);refine wpAnyH_ready (rs := [4]) (by kernel_rfl) (by simp) ?_;refine AllReadyH.cons rfl (fun KK hK => ?_) AllReadyH.nil;clear hHeld;go_simp;refine (HHD.out x1).mono ?_;rintro e x2 ⟨rfl, h⟩;have X_2 := Lib.hid (X_1.out.trans h);clear h X_1;go_simp;refine hK.out _ _ trivial (fun hHeld => ?_);clear hK KK;(try simp only [Act.put, xa, xb, xc, xd, xe, xf]);refine tkH 7 (v := ?_) rfl hHeld ?_ ?_;rotate_left
     ·intro w hSw;(try dsimp only at hSw);go_split_ands;go_simp;(try with_reducible rfl)
     (try simp only [Act.put, xa, xb, xc, xd, xe, xf]);refine tkH 8 (v := ?_) rfl hHeld ?_ ?_;rotate_left
     ·intro w hSw;(try dsimp only at hSw);go_split_ands;go_simp;(try with_reducible rfl)
     (try simp only [Act.put, xa, xb, xc, xd, xe, xf]);refine wpAnyH_take (i := 9) (v := undef) rfl (by kernel_rfl) (by kernel_rfl) (by kernel_rfl) (fun _ _ _ h => h) (Or.inr ⟨by kernel_rfl, rfl⟩) hHeld ?_;(try simp only [Act.put, xa, xb, xc, xd, xe, xf]);refine wpAnyH_take (i := 10) (v := undef) rfl (by kernel_rfl) (by kernel_rfl) (by kernel_rfl) (fun _ _ _ h => h) (Or.inr ⟨by kernel_rfl, rfl⟩) hHeld ?_;(try simp only [Act.put, xa, xb, xc, xd, xe, xf]);refine tkH 11 (v := ?_) rfl hHeld ?_ ?_;rotate_left
     ·intro w hSw;(try dsimp only at hSw);go_split_ands;go_simp;(try with_reducible rfl)
     (try simp only [Act.put, xa, xb, xc, xd, xe, xf]);refine tkH 12 (v := ?_) rfl hHeld ?_ ?_;rotate_left
     ·intro w hSw;(try dsimp only at hSw);go_split_ands;go_simp;(try with_reducible rfl)
     (try simp only [Act.put, xa, xb, xc, xd, xe, xf]);refine wpAnyH_take (i := 13) (v := undef) rfl (by kernel_rfl) (by kernel_rfl) (by kernel_rfl) (fun _ _ _ h => h) (Or.inr ⟨by kernel_rfl, rfl⟩) hHeld ?_;(try simp only [Act.put, xa, xb, xc, xd, xe, xf]);refine wpAnyH_take (i := 14) (v := undef) rfl (by kernel_rfl) (by kernel_rfl) (by kernel_rfl) (fun _ _ _ h => h) (Or.inr ⟨by kernel_rfl, rfl⟩) hHeld ?_;(try simp only [Act.put, xa, xb, xc, xd, xe, xf]);refine wpAnyH_take (i := 15) (v := undef) rfl (by kernel_rfl) (by kernel_rfl) (by kernel_rfl) (fun _ _ _ h => h) (Or.inr ⟨by kernel_rfl, rfl⟩) hHeld ?_;(try simp only [Act.put, xa, xb, xc, xd, xe, xf]);refine wpAnyH_take (i := 16) (v := undef) rfl (by kernel_rfl) (by kernel_rfl) (by kernel_rfl) (fun _ _ _ h => h) (Or.inr ⟨by kernel_rfl, rfl⟩) hHeld ?_;(try simp only [Act.put, xa, xb, xc, xd, xe, xf]);refine wpAnyH_take (i := 17) (v := undef) rfl (by kernel_rfl) (by kernel_rfl) (by kernel_rfl) (fun _ _ _ h => h) (Or.inr ⟨by kernel_rfl, rfl⟩) hHeld ?_;(try simp only [Act.put, xa, xb, xc, xd, xe, xf]);refine tkH 18 (v := ?_) rfl hHeld ?_ ?_;rotate_left
     ·intro w hSw;(try dsimp only at hSw);go_split_ands;go_simp;(try with_reducible rfl)
     (try simp only [Act.put, xa, xb, xc, xd, xe, xf]);refine wpAnyH_done (by kernel_rfl) ?_ _;clear hHeld;go_wp2_with fail;go_ret2;exact ⟨X_2.out, rfl⟩
 ·as_aux_lemma =>
   rw [if_neg hp] at hr;subst hr;have HHF : Hid (∀ w, Calls Tryz.prog 49 #[.string h, .string ⟨#[99, 97, 107, 101]⟩] w fun e w' => e = .returned (.bool false) ∧ w = w') := Lib.hid (fun w => (HHP.out w).mono (fun e w' q => ⟨by rw [q.1]; congr 1; congr 1; exact decide_eq_false hp, q.2⟩));clear HHP hp;go_wp2_with fail;refine (HHF.out _).mono ?_;rintro e w9 ⟨rfl, rfl⟩;go_wp2_with fail;go_ret2;exact ⟨X1.out, rfl⟩
end Go.Proofs.YtheidjagcafgnaaGreatDoor
