/-
  The document's reader of packed texts: its memory; ok, fail, align, get.
  The document's reader: word.
  The document's High.
-/
import Derived.Test.YtnhbjgmfbcedaaaDoorInflateTellsG10
import Derived.Test.YtnhbjgmfbcedaaaDoorInflateTellsG4
import Derived.StillTailTactics
import Derived.StillTactics
import Derived.Test.YtnhbjgmfbcedaaaDoorInflateTellsG6
namespace Go.Proofs.YtnhbjgmfbcedaaaDoor
open Go.RowKit
set_option maxRecDepth 100000
/-- a still region, step by step (the kernel alone reckons which operations are wanted) -/
@[irreducible] def wpQ (P : Program) (ops : Array Oper) (w : World) (Q : Act → Prop) (l : List Oper) (a : Act) : Prop := wpStill P ops w Q l a
theorem wpQ_eq {P : Program} {ops : Array Oper} {w : World} {Q : Act → Prop} {l : List Oper} {a : Act} : wpQ P ops w Q l a = wpStill P ops w Q l a := by unfold wpQ; rfl
theorem wpQ_nil {P : Program} {ops : Array Oper} {w : World} {Q : Act → Prop} {a : Act} (h : Q a) : wpQ P ops w Q [] a := by rw [wpQ_eq]; exact h
theorem wpQ_no {P : Program} {ops : Array Oper} {w : World} {Q : Act → Prop} {a : Act} {o : Oper} {rest : List Oper} (hw : Region.wanted o (yielded ops a.tmps) = false) (h : wpQ P ops w Q rest (a.put o.dst undef)) : wpQ P ops w Q (o :: rest) a := by
  rw [wpQ_eq] at h ⊢
  unfold wpStill; rw [hw]; exact h
theorem wpQ_yes {P : Program} {ops : Array Oper} {w : World} {Q : Act → Prop} {a : Act} {o : Oper} {rest : List Oper} (hw : Region.wanted o (yielded ops a.tmps) = true)
    (h : ∀ K : Act → Prop, (∀ a, wpQ P ops w Q rest a → K a) → o.still P a w K) : wpQ P ops w Q (o :: rest) a := by
  rw [wpQ_eq]
  unfold wpStill; rw [hw]; exact h _ (fun _ q => by rw [wpQ_eq] at q; exact q)
theorem wp_regionQ {P : Program} {id : Nat} {Q : Exit → Act → World → Prop} {a : Act} {w : World} {l : List Oper} (hm : P.follows .mixedOrders = true) (hB : Region.lexB .any l.toArray = true)
    (h : wpQ P l.toArray w.drew (fun a' => Q .normal a' w.drew) l a) : (Code.region id l.toArray true).wp P Q a w :=
  wp_region_still_lit hm hB (by rw [wpQ_eq] at h; exact h)
/-- a reader's cells: its bits, its place, its error's number; the others by a function -/
def qc (T : ByteArray) (a e : Nat) (x : Nat → Value) : Array Value := #[.string T, .int .i64 (a : Int), x 2, x 3, .int .i64 (e : Int), x 5, x 6, x 7, x 8, x 9, x 10, x 11]
theorem qc_congr {T : ByteArray} {a e : Nat} {x y : Nat → Value} (h : ∀ i, i < 12 → x i = y i) : qc T a e x = qc T a e y := by
  unfold qc; rw [h 2 (by decide), h 3 (by decide), h 5 (by decide), h 6 (by decide), h 7 (by decide), h 8 (by decide), h 9 (by decide), h 10 (by decide), h 11 (by decide)]
def xset (x : Nat → Value) (i : Nat) (v : Value) : Nat → Value := fun j => if j = i then v else x j
theorem rok_any (Q a e : Nat) (T : ByteArray) (x : Nat → Value) (w : World) (hB : Bk w Q (qc T a e x)) :
    Calls Tryd.prog 42 #[.pointer (some ⟨Q, 0, none⟩)] w fun r w' => r = .returned (.bool (decide (e = 0))) ∧ w' = w := by
  have c4 := hB.cell 4
  simp only [qc] at c4
  clear hB
  go_enter Tryd.func42, Tryd.ntmps42
  go_wp2_with fail
  go_ret
  exact ⟨ret_bool (by rw [Bool.eq_iff_iff]; simp), rfl⟩
theorem Bk.put1 {w : World} {Q a e : Nat} {T : ByteArray} {x : Nat → Value} (h : Bk w Q (qc T a e x)) (a' : Nat) : Bk (w.setCell ⟨Q, 1, none⟩ (.int .i64 (a' : Int))) Q (qc T a' e x) := by
  have := h.set_ 1 (.int .i64 (a' : Int)); simpa [qc] using this
theorem Bk.put4 {w : World} {Q a e : Nat} {T : ByteArray} {x : Nat → Value} (h : Bk w Q (qc T a e x)) (e' : Nat) : Bk (w.setCell ⟨Q, 4, none⟩ (.int .i64 (e' : Int))) Q (qc T a e' x) := by
  have := h.set_ 4 (.int .i64 (e' : Int)); simpa [qc] using this
theorem Bk.putx {w : World} {Q a e : Nat} {T : ByteArray} {x : Nat → Value} (h : Bk w Q (qc T a e x)) (i : Nat) (hi : i = 2 ∨ i = 5 ∨ i = 6 ∨ i = 7 ∨ i = 8 ∨ i = 9 ∨ i = 10 ∨ i = 11) (v : Value) : Bk (w.setCell ⟨Q, i, none⟩ v) Q (qc T a e (xset x i v)) := by
  have := h.set_ i v
  rcases hi with rfl | rfl | rfl | rfl | rfl | rfl | rfl | rfl <;> simpa [qc, xset] using this
theorem keepQ {w : World} {Q i : Nat} {v : Value} : Keeps (fun k => k = Q) w (w.setCell ⟨Q, i, none⟩ v) := (Keeps.refl (fun k => k = Q) w).setCell (p := ⟨Q, i, none⟩) (.inl rfl) v
def fl (e c : Nat) : Nat := if e = 0 then c else e
theorem rfail_any (Q a e c : Nat) (T : ByteArray) (x : Nat → Value) (w : World) (hB : Bk w Q (qc T a e x)) :
    Calls Tryd.prog 49 #[.pointer (some ⟨Q, 0, none⟩), .int .i64 (c : Int)] w fun r w' => r = .returned (.tuple #[]) ∧ Bk w' Q (qc T a (fl e c) x) ∧ Keeps (fun k => k = Q) w w' := by
  have c4 := hB.cell 4
  have f4 := hB.frozen 4
  simp only [qc] at c4
  by_cases he : e = 0
  · subst he
    have H := Lib.hid (hB.put4 c)
    clear hB
    go_enter Tryd.func49, Tryd.ntmps49
    go_wp2_with fail
    go_end0
    exact ⟨rfl, H.out, keepQ⟩
  · have hf : fl e c = e := if_neg he
    have t1 : ((e : Int) == 0) = false := beq_eq_false_iff_ne.2 (by omega)
    rw [hf]
    have H := Lib.hid hB
    clear hB
    go_enter Tryd.func49, Tryd.ntmps49
    go_wp2_with fail
    go_end0
    exact ⟨rfl, H.out, Keeps.refl _ _⟩
theorem ralgn_any (Q a e : Nat) (T : ByteArray) (x : Nat → Value) (w : World) (hB : Bk w Q (qc T a e x)) (ha : a ≤ 100000000) :
    Calls Tryd.prog 50 #[.pointer (some ⟨Q, 0, none⟩)] w fun r w' => r = .returned (.tuple #[]) ∧ Bk w' Q (qc T ((a + 7) / 8 * 8) e x) ∧ Keeps (fun k => k = Q) w w' := by
  have c1 := hB.cell 1
  have f1 := hB.frozen 1
  simp only [qc] at c1
  have e8 : ((a : Int) + 7) / 8 * 8 = (((a + 7) / 8 * 8 : Nat) : Int) := by omega
  have H := Lib.hid (hB.put1 ((a + 7) / 8 * 8))
  rw [← e8] at H
  have H8 := Lib.hid e8
  clear hB e8
  go_enter Tryd.func50, Tryd.ntmps50
  go_wp2_with fail
  go_end0
  exact ⟨rfl, H.out, keepQ⟩
/-- the number that stands next -/
theorem bits_num (L : List UInt8) (a k : Nat) (_h : a + k ≤ 8 * L.length) : Bts.val (((Bts.allB L).drop a).take k) = Crc.num L / 2 ^ a % 2 ^ k := by
  rw [Bts.val_take, Bts.val_drop, val_allB]
theorem bs_extract (M : List Bool) (a b : Nat) (_h : a ≤ b) : (bs M).extract a b = bs ((M.drop a).take (b - a)) := by
  apply bytes_ext
  rw [ex_list, bs_list, bs_list]
  simp [Bts.str, List.map_drop, List.map_take]
def GPost (Q : Nat) (T : ByteArray) (a e : Nat) (x : Nat → Value) (w : World) (g : Except Nat (Nat × Nat)) (r : Ending) (w' : World) : Prop :=
  Keeps (fun k => k = Q) w w' ∧ if e = 0 then
    match g with
    | .ok (n, a') => r = .returned (.int .i64 (n : Int)) ∧ Bk w' Q (qc T a' 0 x)
    | .error c => r = .returned (.int .i64 0) ∧ Bk w' Q (qc T a (c + 1) x)
  else r = .returned (.int .i64 0) ∧ Bk w' Q (qc T a e x)
set_option linter.unusedSimpArgs false in
set_option maxHeartbeats 4000000 in
theorem qget_any (Q a e k : Nat) (L : List UInt8) (x : Nat → Value) (w : World) (hB : Bk w Q (qc (bs (Bts.allB L)) a e x)) (hk : k ≤ 16) (ha : a ≤ 8 * L.length) (hL : L.length ≤ 300000) :
    Calls Tryd.prog 43 #[.pointer (some ⟨Q, 0, none⟩), .int .i64 (k : Int)] w fun r w' => GPost Q (bs (Bts.allB L)) a e x w (Inf.get L k a) r w' := by
  have HO := Lib.hid (fun (w : World) (h : Bk w Q (qc (bs (Bts.allB L)) a e x)) => rok_any Q a e (bs (Bts.allB L)) x w h)
  have hsz : (bs (Bts.allB L)).size = 8 * L.length := by rw [bs_size, Bts.allB_length]
  obtain ⟨T, hT⟩ : ∃ T, bs (Bts.allB L) = T := ⟨_, rfl⟩
  rw [hT] at hB hsz HO ⊢
  have HT := Lib.hid hT
  have HB := Lib.hid hB
  have c0 := hB.cell 0
  have c1 := hB.cell 1
  have f1 := hB.frozen 1
  simp only [qc] at c0 c1
  have HSZ := Lib.hid hsz
  obtain ⟨Z, hZ⟩ : ∃ Z, T.size = Z := ⟨_, rfl⟩
  clear hB hT
  by_cases he : e = 0
  · subst he
    have hd : decide (0 = 0) = true := rfl
    obtain ⟨A, hA⟩ : ∃ A, a + k = A := ⟨_, rfl⟩
    have hAI : (a : Int) + (k : Int) = (A : Int) := by omega
    have wA : ∀ z, z = (A : Int) → IntKind.i64.wrap z = z := by rintro _ rfl; rw [IntKind.wrap_i64]; omega
    rw [hZ] at hsz
    by_cases hlt : Z < A
    · have t1 : decide ((Z : Int) < (A : Int)) = true := decide_eq_true (by omega)
      have HG : Hid (Inf.get L k a = .error 0) := Lib.hid (by unfold Inf.get; rw [if_neg (by omega)])
      clear hsz hA
      go_enter Tryd.func43, Tryd.ntmps43
      go_wp2_with fail
      refine wp_regionQ (by kernel_rfl) (by kernel_rfl) ?_
      refine wpQ_yes (by kernel_rfl) (fun K hK => ?_)
      go_simp
      refine hK _ ?_
      clear hK K
      refine wpQ_yes (by kernel_rfl) (fun K hK => ?_)
      go_simp
      refine ⟨_, HO.out _ HB.out.drew, hK _ ?_⟩
      clear hK K
      refine wpQ_yes (by kernel_rfl) (fun K hK => ?_)
      go_simp
      refine hK _ ?_
      clear hK K
      refine wpQ_yes (by kernel_rfl) (fun K hK => ?_)
      go_simp
      refine hK _ ?_
      clear hK K
      refine wpQ_yes (by kernel_rfl) (fun K hK => ?_)
      go_simp
      refine hK _ ?_
      clear hK K
      refine wpQ_yes (by kernel_rfl) (fun K hK => ?_)
      go_simp
      refine hK _ ?_
      clear hK K
      refine wpQ_yes (by kernel_rfl) (fun K hK => ?_)
      go_simp
      refine hK _ ?_
      clear hK K
      refine wpQ_yes (by kernel_rfl) (fun K hK => ?_)
      go_simp
      refine hK _ ?_
      clear hK K
      refine wpQ_yes (by kernel_rfl) (fun K hK => ?_)
      go_simp
      refine hK _ ?_
      clear hK K
      refine wpQ_yes (by kernel_rfl) (fun K hK => ?_)
      go_simp
      refine hK _ ?_
      clear hK K
      refine wpQ_yes (by kernel_rfl) (fun K hK => ?_)
      go_simp
      refine hK _ ?_
      clear hK K
      refine wpQ_yes (by kernel_rfl) (fun K hK => ?_)
      go_simp
      refine hK _ ?_
      clear hK K
      refine wpQ_yes (by kernel_rfl) (fun K hK => ?_)
      go_simp
      refine hK _ ?_
      clear hK K
      refine wpQ_yes (by kernel_rfl) (fun K hK => ?_)
      go_simp
      refine hK _ ?_
      clear hK K
      refine wpQ_yes (by kernel_rfl) (fun K hK => ?_)
      go_simp
      refine hK _ ?_
      clear hK K
      refine wpQ_yes (by kernel_rfl) (fun K hK => ?_)
      go_simp
      refine hK _ ?_
      clear hK K
      refine wpQ_yes (by kernel_rfl) (fun K hK => ?_)
      go_simp
      refine hK _ ?_
      clear hK K
      refine wpQ_nil ?_
      go_wp2_with fail
      refine (rfail_any Q a 0 1 T x _ HB.out.drew).mono ?_
      rintro r w1 ⟨rfl, hB1, hK1⟩
      have HB1 := Lib.hid hB1
      have HK1 := Lib.hid hK1
      clear hB1 hK1
      go_wp2_with fail
      go_ret
      refine ⟨⟨HK1.out.os, HK1.out.tape, HK1.out.output, HK1.out.size, HK1.out.block⟩, ?_⟩
      rw [if_pos rfl, HG.out]
      exact ⟨rfl, HB1.out⟩
    · have t1 : decide ((Z : Int) < (A : Int)) = false := decide_eq_false (by omega)
      have hAL : A ≤ 8 * L.length := by omega
      have HG : Hid (Inf.get L k a = .ok (Crc.num L / 2 ^ a % 2 ^ k, A)) := Lib.hid (by unfold Inf.get; rw [if_pos (by omega), hA])
      obtain ⟨M, hM⟩ : ∃ M, ((Bts.allB L).drop a).take k = M := ⟨_, rfl⟩
      have hML : M.length ≤ 32 := by rw [← hM, List.length_take]; omega
      have hext : T.extract a A = bs M := by rw [← HT.out, bs_extract _ _ _ (by omega), ← hM, show A - a = k by omega]
      have hval : Bts.val M = Crc.num L / 2 ^ a % 2 ^ k := by rw [← hM]; exact bits_num L a k (by omega)
      obtain ⟨nn, hnn⟩ : ∃ nn, Bts.val M = nn := ⟨_, rfl⟩
      have hnb : nn < 65536 := by
        rw [← hnn, hval]
        exact Nat.lt_of_lt_of_le (Nat.mod_lt _ (Nat.two_pow_pos _)) (Nat.pow_le_pow_right (by decide) hk)
      have HV : Hid (Crc.num L / 2 ^ a % 2 ^ k = nn) := Lib.hid (hval.symm.trans hnn)
      have HLow := Lib.hid (fun (w : World) => still_of (lowOf_any M w hML))
      rw [hnn] at HLow
      have wn : ∀ z, z = (nn : Int) → IntKind.i64.wrap z = z := by rintro _ rfl; rw [IntKind.wrap_i64]; omega
      have hBA := HB.out.drew.put1 A
      have HBA := Lib.hid hBA
      have k0 := hBA.cell 0
      have k1 := hBA.cell 1
      simp only [qc] at k0 k1
      have hsub : (A : Int) - (k : Int) = (a : Int) := by omega
      have wa : ∀ z, z = (a : Int) → IntKind.i64.wrap z = z := by rintro _ rfl; rw [IntKind.wrap_i64]; omega
      have haA : a ≤ A := by omega
      have haA2 : (a : Int) ≤ (A : Int) := by omega
      have hAZ : A ≤ Z := by omega
      have hAZ2 : (A : Int) ≤ (Z : Int) := by omega
      have ha0 : (0 : Int) ≤ (a : Int) := by omega
      have hat : ((a : Nat) : Int).toNat = a := by omega
      have hAt : ((A : Nat) : Int).toNat = A := by omega
      clear hsz hA hM hval hnn hBA
      go_enter Tryd.func43, Tryd.ntmps43
      go_wp2_with fail
      refine wp_regionQ (by kernel_rfl) (by kernel_rfl) ?_
      refine wpQ_yes (by kernel_rfl) (fun K hK => ?_)
      go_simp
      refine hK _ ?_
      clear hK K
      refine wpQ_yes (by kernel_rfl) (fun K hK => ?_)
      go_simp
      refine ⟨_, HO.out _ HB.out.drew, hK _ ?_⟩
      clear hK K
      refine wpQ_yes (by kernel_rfl) (fun K hK => ?_)
      go_simp
      refine hK _ ?_
      clear hK K
      refine wpQ_yes (by kernel_rfl) (fun K hK => ?_)
      go_simp
      refine hK _ ?_
      clear hK K
      refine wpQ_yes (by kernel_rfl) (fun K hK => ?_)
      go_simp
      refine hK _ ?_
      clear hK K
      refine wpQ_yes (by kernel_rfl) (fun K hK => ?_)
      go_simp
      refine hK _ ?_
      clear hK K
      refine wpQ_yes (by kernel_rfl) (fun K hK => ?_)
      go_simp
      refine hK _ ?_
      clear hK K
      refine wpQ_yes (by kernel_rfl) (fun K hK => ?_)
      go_simp
      refine hK _ ?_
      clear hK K
      refine wpQ_yes (by kernel_rfl) (fun K hK => ?_)
      go_simp
      refine hK _ ?_
      clear hK K
      refine wpQ_yes (by kernel_rfl) (fun K hK => ?_)
      go_simp
      refine hK _ ?_
      clear hK K
      refine wpQ_yes (by kernel_rfl) (fun K hK => ?_)
      go_simp
      refine hK _ ?_
      clear hK K
      refine wpQ_yes (by kernel_rfl) (fun K hK => ?_)
      go_simp
      refine hK _ ?_
      clear hK K
      refine wpQ_yes (by kernel_rfl) (fun K hK => ?_)
      go_simp
      refine hK _ ?_
      clear hK K
      refine wpQ_yes (by kernel_rfl) (fun K hK => ?_)
      go_simp
      refine hK _ ?_
      clear hK K
      refine wpQ_yes (by kernel_rfl) (fun K hK => ?_)
      go_simp
      refine hK _ ?_
      clear hK K
      refine wpQ_yes (by kernel_rfl) (fun K hK => ?_)
      go_simp
      refine hK _ ?_
      clear hK K
      refine wpQ_yes (by kernel_rfl) (fun K hK => ?_)
      go_simp
      refine hK _ ?_
      clear hK K
      refine wpQ_nil ?_
      go_wp2_with fail
      refine wp_world (fun wz => Bk wz Q (qc T A 0 x) ∧ Keeps (fun k => k = Q) w wz) ⟨HBA.out, (Keeps.refl (fun k => k = Q) w).drew.setCell (p := ⟨Q, 1, none⟩) (.inl rfl) _⟩ ?_
      rintro w2 ⟨h2, hK2⟩
      have H2 := Lib.hid h2
      have HK2 := Lib.hid hK2
      have j0 := h2.cell 0
      have j1 := h2.cell 1
      simp only [qc] at j0 j1
      clear h2 hK2 k0 k1 c0 c1 f1 t1 hlt
      refine wp_regionQ (by kernel_rfl) (by kernel_rfl) ?_
      refine wpQ_yes (by kernel_rfl) (fun K hK => ?_)
      go_simp
      refine hK _ ?_
      clear hK K
      refine wpQ_yes (by kernel_rfl) (fun K hK => ?_)
      go_simp
      refine hK _ ?_
      clear hK K
      refine wpQ_yes (by kernel_rfl) (fun K hK => ?_)
      go_simp
      refine hK _ ?_
      clear hK K
      refine wpQ_yes (by kernel_rfl) (fun K hK => ?_)
      go_simp
      refine hK _ ?_
      clear hK K
      refine wpQ_yes (by kernel_rfl) (fun K hK => ?_)
      go_simp
      refine hK _ ?_
      clear hK K
      refine wpQ_yes (by kernel_rfl) (fun K hK => ?_)
      go_simp
      refine hK _ ?_
      clear hK K
      refine wpQ_yes (by kernel_rfl) (fun K hK => ?_)
      go_simp
      refine hK _ ?_
      clear hK K
      refine wpQ_yes (by kernel_rfl) (fun K hK => ?_)
      go_simp
      refine hK _ ?_
      clear hK K
      refine wpQ_yes (by kernel_rfl) (fun K hK => ?_)
      go_simp
      refine hK _ ?_
      clear hK K
      refine wpQ_yes (by kernel_rfl) (fun K hK => ?_)
      go_simp
      refine hK _ ?_
      clear hK K
      refine wpQ_yes (by kernel_rfl) (fun K hK => ?_)
      go_simp
      refine hK _ ?_
      clear hK K
      refine wpQ_yes (by kernel_rfl) (fun K hK => ?_)
      go_simp
      refine hK _ ?_
      clear hK K
      refine wpQ_yes (by kernel_rfl) (fun K hK => ?_)
      go_simp
      refine hK _ ?_
      clear hK K
      refine wpQ_yes (by kernel_rfl) (fun K hK => ?_)
      go_simp
      refine hK _ ?_
      clear hK K
      refine wpQ_yes (by kernel_rfl) (fun K hK => ?_)
      go_simp
      refine hK _ ?_
      clear hK K
      refine wpQ_yes (by kernel_rfl) (fun K hK => ?_)
      go_simp
      refine ⟨_, HLow.out _, hK _ ?_⟩
      clear hK K
      refine wpQ_yes (by kernel_rfl) (fun K hK => ?_)
      go_simp
      refine hK _ ?_
      clear hK K
      refine wpQ_yes (by kernel_rfl) (fun K hK => ?_)
      go_simp
      refine hK _ ?_
      clear hK K
      refine wpQ_nil ?_
      go_wp2_with fail
      go_ret
      refine ⟨HK2.out.drew, ?_⟩
      rw [if_pos rfl, HG.out, HV.out]
      exact ⟨rfl, H2.out⟩
  · have hd : decide (e = 0) = false := decide_eq_false he
    have hfl : fl e 1 = e := if_neg he
    go_enter Tryd.func43, Tryd.ntmps43
    go_wp2_with fail
    refine wp_regionQ (by kernel_rfl) (by kernel_rfl) ?_
    refine wpQ_yes (by kernel_rfl) (fun K hK => ?_)
    go_simp
    refine hK _ ?_
    clear hK K
    refine wpQ_yes (by kernel_rfl) (fun K hK => ?_)
    go_simp
    refine ⟨_, HO.out _ HB.out.drew, hK _ ?_⟩
    clear hK K
    refine wpQ_yes (by kernel_rfl) (fun K hK => ?_)
    go_simp
    refine hK _ ?_
    clear hK K
    refine wpQ_yes (by kernel_rfl) (fun K hK => ?_)
    go_simp
    refine hK _ ?_
    clear hK K
    refine wpQ_no (by kernel_rfl) ?_
    try simp only [Act.put, List.getElem_toArray, List.getElem_cons_succ, List.getElem_cons_zero, List.setIfInBounds_toArray, List.set_cons_zero, List.set_cons_succ]
    refine wpQ_no (by kernel_rfl) ?_
    try simp only [Act.put, List.getElem_toArray, List.getElem_cons_succ, List.getElem_cons_zero, List.setIfInBounds_toArray, List.set_cons_zero, List.set_cons_succ]
    refine wpQ_no (by kernel_rfl) ?_
    try simp only [Act.put, List.getElem_toArray, List.getElem_cons_succ, List.getElem_cons_zero, List.setIfInBounds_toArray, List.set_cons_zero, List.set_cons_succ]
    refine wpQ_no (by kernel_rfl) ?_
    try simp only [Act.put, List.getElem_toArray, List.getElem_cons_succ, List.getElem_cons_zero, List.setIfInBounds_toArray, List.set_cons_zero, List.set_cons_succ]
    refine wpQ_no (by kernel_rfl) ?_
    try simp only [Act.put, List.getElem_toArray, List.getElem_cons_succ, List.getElem_cons_zero, List.setIfInBounds_toArray, List.set_cons_zero, List.set_cons_succ]
    refine wpQ_no (by kernel_rfl) ?_
    try simp only [Act.put, List.getElem_toArray, List.getElem_cons_succ, List.getElem_cons_zero, List.setIfInBounds_toArray, List.set_cons_zero, List.set_cons_succ]
    refine wpQ_no (by kernel_rfl) ?_
    try simp only [Act.put, List.getElem_toArray, List.getElem_cons_succ, List.getElem_cons_zero, List.setIfInBounds_toArray, List.set_cons_zero, List.set_cons_succ]
    refine wpQ_no (by kernel_rfl) ?_
    try simp only [Act.put, List.getElem_toArray, List.getElem_cons_succ, List.getElem_cons_zero, List.setIfInBounds_toArray, List.set_cons_zero, List.set_cons_succ]
    refine wpQ_no (by kernel_rfl) ?_
    try simp only [Act.put, List.getElem_toArray, List.getElem_cons_succ, List.getElem_cons_zero, List.setIfInBounds_toArray, List.set_cons_zero, List.set_cons_succ]
    refine wpQ_no (by kernel_rfl) ?_
    try simp only [Act.put, List.getElem_toArray, List.getElem_cons_succ, List.getElem_cons_zero, List.setIfInBounds_toArray, List.set_cons_zero, List.set_cons_succ]
    refine wpQ_no (by kernel_rfl) ?_
    try simp only [Act.put, List.getElem_toArray, List.getElem_cons_succ, List.getElem_cons_zero, List.setIfInBounds_toArray, List.set_cons_zero, List.set_cons_succ]
    refine wpQ_no (by kernel_rfl) ?_
    try simp only [Act.put, List.getElem_toArray, List.getElem_cons_succ, List.getElem_cons_zero, List.setIfInBounds_toArray, List.set_cons_zero, List.set_cons_succ]
    refine wpQ_yes (by kernel_rfl) (fun K hK => ?_)
    go_simp
    refine hK _ ?_
    clear hK K
    refine wpQ_nil ?_
    go_wp2_with fail
    refine (rfail_any Q a e 1 T x _ HB.out.drew).mono ?_
    rintro r w1 ⟨rfl, hB1, hK1⟩
    rw [hfl] at hB1
    have HB1 := Lib.hid hB1
    have HK1 := Lib.hid hK1
    clear hB1 hK1
    go_wp2_with fail
    go_ret
    refine ⟨⟨HK1.out.os, HK1.out.tape, HK1.out.output, HK1.out.size, HK1.out.block⟩, ?_⟩
    rw [if_neg he]
    exact ⟨rfl, HB1.out⟩
end Go.Proofs.YtnhbjgmfbcedaaaDoor
namespace Go.Proofs.YtnhbjgmfbcedaaaDoor
open Go.RowKit
set_option maxRecDepth 100000
theorem high_mod (x : Nat) : ∀ k, Bts.high (x % 2 ^ k) k = Bts.high x k := by
  have h : ∀ k j y, k ≤ j → Bts.high (y % 2 ^ j) k = Bts.high y k := by
    intro k
    induction k with
    | zero => intro j y _; rfl
    | succ k ih =>
      intro j y hj
      have e1 : y % 2 ^ j / 2 ^ k % 2 = y / 2 ^ k % 2 := by
        have t1 : (y % 2 ^ j).testBit k = y.testBit k := by rw [Nat.testBit_mod_two_pow]; simp; omega
        rw [Nat.testBit_eq_decide_div_mod_eq, Nat.testBit_eq_decide_div_mod_eq, decide_eq_decide] at t1
        omega
      apply Bts.val_inj
      · rw [Bts.high_length, Bts.high_length]
      · rw [Bts.val_high_succ, Bts.val_high_succ, e1, ih j y (by omega)]
  intro k; exact h k k x (Nat.le_refl _)
theorem val_high_code (N : Nat) : ∀ k a, Bts.val (Bts.high (codeAt N a k) k) = N / 2 ^ a % 2 ^ k := by
  intro k
  induction k with
  | zero => intro a; simp [codeAt, Bts.high, Bts.val, Nat.mod_one]
  | succ k ih =>
    intro a
    have hl := codeAt_lt N (a + 1) k
    have hb : N / 2 ^ a % 2 < 2 := Nat.mod_lt _ (by decide)
    rw [Bts.val_high_succ, ← high_mod (codeAt N a (k + 1)) k, codeAt_first]
    obtain ⟨b, hbb⟩ : ∃ b, N / 2 ^ a % 2 = b := ⟨_, rfl⟩
    rw [hbb] at hb ⊢
    rw [Nat.mul_comm b, Nat.mul_add_mod, Nat.mod_eq_of_lt hl, ih (a + 1), Nat.mul_add_div (Nat.two_pow_pos k), Nat.div_eq_of_lt hl, Nat.add_zero, Nat.mod_eq_of_lt hb, ← hbb]
    rw [Nat.pow_succ 2 a, ← Nat.div_div_eq_div_mul, Nat.pow_succ]
    generalize N / 2 ^ a = z
    generalize 2 ^ k = q
    rw [Nat.mul_comm q 2, Nat.mod_mul]
theorem high_code (L : List UInt8) (a k : Nat) (h : a + k ≤ 8 * L.length) : Bts.high (codeAt (Crc.num L) a k) k = ((Bts.allB L).drop a).take k := by
  apply Bts.val_inj
  · rw [Bts.high_length, List.length_take, List.length_drop, Bts.allB_length]; omega
  · rw [val_high_code, bits_num L a k h]
theorem word_bits (L : List UInt8) (a k x : Nat) (h : a + k ≤ 8 * L.length) (hx : x < 2 ^ k) : Bts.high x k = ((Bts.allB L).drop a).take k ↔ x = codeAt (Crc.num L) a k := by
  constructor
  · intro e
    have := codeAt_high x k (Crc.num L) a (by rw [e, bits_num L a k h])
    rw [Nat.mod_eq_of_lt hx] at this; exact this.symm
  · intro e; rw [e]; exact high_code L a k h
theorem bs_inj {M M' : List Bool} (h : bs M = bs M') : M = M' := by
  apply Bts.str_inj
  rw [← bs_list, ← bs_list, h]
/-- the longest of so many words -/
def mx (f : Nat → Int) : Nat → Nat
  | 0 => 0
  | i + 1 => max (mx f i) (f i).toNat
theorem mx_le (f : Nat → Int) (len : Nat) (h : ∀ j, j < len → 0 ≤ f j ∧ f j ≤ 15) : ∀ i, i ≤ len → mx f i ≤ 15 := by
  intro i
  induction i with
  | zero => intro _; exact Nat.zero_le _
  | succ i ih => intro hi; have := ih (by omega); have := h i (by omega); simp only [mx]; omega
theorem mx_ge (f : Nat → Int) : ∀ i j, j < i → (f j).toNat ≤ mx f i := by
  intro i
  induction i with
  | zero => intro j h; omega
  | succ i ih =>
    intro j h
    simp only [mx]
    by_cases e : j = i
    · subst e; omega
    · have := ih j (by omega); omega
/-- a code's words in memory -/
def Cw (w : World) (Q : Nat) (v : Value) (f : Nat → Int) (len : Nat) : Prop := Inf.good f len ∧ ∃ C c, v = .slice (some ⟨C, 0, none⟩) len c ∧ C ≠ Q ∧ Cv w C len (fun i => .string (bs (Bts.high (word f len i) (f i).toNat)))
theorem Cw.keep {w w' : World} {Q : Nat} {v : Value} {f : Nat → Int} {len : Nat} {S : Nat → Prop} (h : Cw w Q v f len) (hk : Keeps S w w') (hS : ∀ C, (∃ l c, v = .slice (some ⟨C, 0, none⟩) l c) → ¬ S C) : Cw w' Q v f len := by
  obtain ⟨h0, C, c, h1, h2, h3⟩ := h
  exact ⟨h0, C, c, h1, h2, h3.keeps hk (hS C ⟨_, _, h1⟩)⟩
theorem Cw.quiet {w w' : World} {Q : Nat} {v : Value} {f : Nat → Int} {len : Nat} (h : Cw w Q v f len) (hk : Keeps (fun k => k = Q) w w') : Cw w' Q v f len := by
  obtain ⟨h0, C, c, h1, h2, h3⟩ := h
  exact ⟨h0, C, c, h1, h2, h3.keeps hk h2⟩
theorem gpost_dead {Q : Nat} {T : ByteArray} {a e : Nat} {x : Nat → Value} {w w' : World} {g : Except Nat (Nat × Nat)} (he : e ≠ 0) (hK : Keeps (fun k => k = Q) w w') (hB : Bk w' Q (qc T a e x)) : GPost Q T a e x w g (.returned (.int .i64 0)) w' := by
  refine ⟨hK, ?_⟩
  rw [if_neg he]
  exact ⟨rfl, hB⟩
theorem gpost_err {Q : Nat} {T : ByteArray} {a c : Nat} {x : Nat → Value} {w w' : World} {g : Except Nat (Nat × Nat)} (hg : g = .error c) (hK : Keeps (fun k => k = Q) w w') (hB : Bk w' Q (qc T a (c + 1) x)) : GPost Q T a 0 x w g (.returned (.int .i64 0)) w' := by
  subst hg; exact ⟨hK, by rw [if_pos rfl]; exact ⟨rfl, hB⟩⟩
theorem gpost_ok {Q : Nat} {T : ByteArray} {a a' n : Nat} {x : Nat → Value} {w w' : World} {g : Except Nat (Nat × Nat)} {v : Value} (hg : g = .ok (n, a')) (hv : v = .int .i64 (n : Int)) (hK : Keeps (fun k => k = Q) w w') (hB : Bk w' Q (qc T a' 0 x)) : GPost Q T a 0 x w g (.returned v) w' := by
  subst hg hv; exact ⟨hK, by rw [if_pos rfl]; exact ⟨rfl, hB⟩⟩
/-- no word stands there that is shorter than n, where nothing failed -/
def NobE (e : Nat) (L : List UInt8) (f : Nat → Int) (len a n : Nat) : Prop := e = 0 → ∀ m k, m < n → ¬ Inf.Hit L f len a m k
set_option linter.unusedSimpArgs false in
set_option maxHeartbeats 8000000 in
theorem qword_any (Q a e len : Nat) (f : Nat → Int) (v : Value) (L : List UInt8) (x : Nat → Value) (w : World) (hB : Bk w Q (qc (bs (Bts.allB L)) a e x)) (hC : Cw w Q v f len) (ha : a ≤ 8 * L.length) (hL : L.length ≤ 300000) :
    Calls Tryd.prog 86 #[.pointer (some ⟨Q, 0, none⟩), v] w fun r w' => GPost Q (bs (Bts.allB L)) a e x w (Inf.nxt L f len a) r w' := by
  have HO := Lib.hid (fun (w : World) (h : Bk w Q (qc (bs (Bts.allB L)) a e x)) => rok_any Q a e (bs (Bts.allB L)) x w h)
  have HF := Lib.hid (fun (w : World) (h : Bk w Q (qc (bs (Bts.allB L)) a e x)) => rfail_any Q a e 1 (bs (Bts.allB L)) x w h)
  have hsz : (bs (Bts.allB L)).size = 8 * L.length := by rw [bs_size, Bts.allB_length]
  obtain ⟨T, hT⟩ : ∃ T, bs (Bts.allB L) = T := ⟨_, rfl⟩
  rw [hT] at hB hsz HO HF ⊢
  have HT := Lib.hid hT
  have HB := Lib.hid hB
  obtain ⟨hgood, C, cc, rfl, hCQ, hcv⟩ := hC
  have HGd := Lib.hid hgood
  have HCv := Lib.hid hcv
  have HC0 := Lib.hid hCQ
  have hlen : len ≤ 300 := hgood.1.1
  have HFB := Lib.hid hgood.1.2
  obtain ⟨g, hg⟩ : ∃ g, Inf.nxt L f len a = g := ⟨_, rfl⟩
  rw [hg]
  have HG := Lib.hid hg
  clear hB hT hgood hcv hCQ hg
  go_enter Tryd.func86, Tryd.ntmps86
  go_wp2_with fail
  go_loopw [5, 6] (fun y z wr => ∃ i : Nat, i ≤ len ∧ z = .int .i64 i ∧ y = .int .i64 (mx f i : Int) ∧ wr = w) (fun _ z _ => len - (intOf z).toNat)
  case atStart => exact ⟨0, by omega, rfl, rfl, by first | rfl | trivial⟩
  case round =>
    obtain ⟨i, hi, rfl, rfl, hw⟩ := hrel
    have hw2 := hw.symm
    clear hw
    subst hw2
    by_cases hlt : i < len
    · have hc := (HCv.out i hlt).1
      obtain ⟨S, hS⟩ : ∃ S, bs (Bts.high (word f len i) (f i).toNat) = S := ⟨_, rfl⟩
      have hSs : S.size = (f i).toNat := by rw [← hS, bs_size, Bts.high_length]
      have hfb := HFB.out i hlt
      simp only [hS] at hc
      obtain ⟨P, hP⟩ : ∃ P, mx f i = P := ⟨_, rfl⟩
      have hm : mx f (i + 1) = if P < S.size then S.size else P := by simp only [mx, hP, hSs]; split <;> omega
      have HM := Lib.hid hm
      rw [hP]
      have wi : ∀ z, z = (i : Int) + 1 → IntKind.i64.wrap z = z := by rintro _ rfl; rw [IntKind.wrap_i64]; omega
      have hiI : (i : Int) < (len : Int) := by omega
      by_cases hlm : P < S.size
      · have t1 : decide ((P : Int) < (S.size : Int)) = true := decide_eq_true (by omega)
        clear hS hP hm hfb hSs
        go_wp2_with fail
        go_roundw
        case rel => exact ⟨i + 1, by omega, by go_num, by rw [HM.out, if_pos hlm], by first | rfl | trivial⟩
        case measure => simp [intOf]; omega
      · have t1 : decide ((P : Int) < (S.size : Int)) = false := decide_eq_false (by omega)
        clear hS hP hm hfb hSs
        go_wp2_with fail
        go_roundw
        case rel => exact ⟨i + 1, by omega, by go_num, by rw [HM.out, if_neg hlm], by first | rfl | trivial⟩
        case measure => simp [intOf]; omega
    · obtain rfl : i = len := by omega
      obtain ⟨P, hP⟩ : ∃ P, mx f i = P := ⟨_, rfl⟩
      have hP15 : P ≤ 15 := by rw [← hP]; exact mx_le f i HFB.out i (Nat.le_refl _)
      have HP := Lib.hid hP
      rw [hP]
      clear hP hlt
      go_wp2_with fail
      go_loopw [7] (fun z wr => ∃ n : Nat, 1 ≤ n ∧ n ≤ P + 1 ∧ z = .int .i64 n ∧ Hid (Ext w wr) ∧ Hid (NobE e L f i a n)) (fun z _ => P + 1 - (intOf z).toNat)
      case atStart => exact ⟨1, by omega, by omega, rfl, Lib.hid (Ext.refl _), Lib.hid (fun _ m k hm hh => by have := hh.1; omega)⟩
      case round =>
        obtain ⟨n, hn1, hn2, rfl, HX, HN⟩ := hrel
        by_cases hnP : n ≤ P
        · have t1 : decide ((n : Int) ≤ (P : Int)) = true := decide_eq_true (by omega)
          have n1 : n ≤ P := hnP
          refine wp_world (fun wz => Ext w wz) HX.out ?_
          rintro wo hXo
          clear HX
          have HX := Lib.hid hXo
          have HBo := Lib.hid (HB.out.ext hXo)
          clear hXo
          go_wp2_with fail
          refine (HO.out wo HBo.out).mono ?_
          rintro r _ ⟨rfl, rfl⟩
          by_cases he : e = 0
          · subst he
            have hd : decide (0 = 0) = true := rfl
            rw [hd]
            obtain ⟨Z, hZ⟩ : ∃ Z, T.size = Z := ⟨_, rfl⟩
            obtain ⟨A, hA⟩ : ∃ A, a + n = A := ⟨_, rfl⟩
            have hAI : (a : Int) + (n : Int) = (A : Int) := by omega
            have hA2 : A ≤ 3000000 := by omega
            have wA : ∀ z, z = (A : Int) → IntKind.i64.wrap z = z := by rintro _ rfl; rw [IntKind.wrap_i64]; omega
            have c0 := HBo.out.cell 0
            have c1 := HBo.out.cell 1
            simp only [qc] at c0 c1
            clear t1 n1
            go_wp2_with fail
            by_cases hlz : Z < A
            · have t2 : decide ((Z : Int) < (A : Int)) = true := decide_eq_true (by omega)
              have HQ : Hid (g = .error 0) := Lib.hid (by
                rw [← HG.out]
                refine Inf.nxt_none fun m k hh => ?_
                have h1 := hh.2.2.1
                rcases Nat.lt_or_ge m n with q | q
                · exact HN.out rfl m k q hh
                · omega)
              refine wp_regionQ (by kernel_rfl) (by kernel_rfl) ?_
              refine wpQ_yes (by kernel_rfl) (fun K hK => ?_)
              go_simp
              refine hK _ ?_
              clear hK K
              refine wpQ_yes (by kernel_rfl) (fun K hK => ?_)
              go_simp
              refine hK _ ?_
              clear hK K
              refine wpQ_yes (by kernel_rfl) (fun K hK => ?_)
              go_simp
              refine hK _ ?_
              clear hK K
              refine wpQ_yes (by kernel_rfl) (fun K hK => ?_)
              go_simp
              refine hK _ ?_
              clear hK K
              refine wpQ_yes (by kernel_rfl) (fun K hK => ?_)
              go_simp
              refine hK _ ?_
              clear hK K
              refine wpQ_yes (by kernel_rfl) (fun K hK => ?_)
              go_simp
              refine hK _ ?_
              clear hK K
              refine wpQ_yes (by kernel_rfl) (fun K hK => ?_)
              go_simp
              refine hK _ ?_
              clear hK K
              refine wpQ_yes (by kernel_rfl) (fun K hK => ?_)
              go_simp
              refine hK _ ?_
              clear hK K
              refine wpQ_yes (by kernel_rfl) (fun K hK => ?_)
              go_simp
              refine hK _ ?_
              clear hK K
              refine wpQ_yes (by kernel_rfl) (fun K hK => ?_)
              go_simp
              refine hK _ ?_
              clear hK K
              refine wpQ_yes (by kernel_rfl) (fun K hK => ?_)
              go_simp
              refine hK _ ?_
              clear hK K
              refine wpQ_yes (by kernel_rfl) (fun K hK => ?_)
              go_simp
              refine hK _ ?_
              clear hK K
              refine wpQ_nil ?_
              go_wp2_with fail
              refine (HF.out _ HBo.out.drew).mono ?_
              rintro r w1 ⟨rfl, hB1, hK1⟩
              have HB1 := Lib.hid hB1
              have HK1 := Lib.hid (((HX.out.drewN 1).keeps (S := fun k => k = Q)).trans hK1 (fun _ _ q => q))
              clear hB1 hK1
              go_wp2_with fail
              go_ret
              exact gpost_err HQ.out HK1.out HB1.out
            · have t2 : decide ((Z : Int) < (A : Int)) = false := decide_eq_false (by omega)
              have hAZ : A ≤ Z := by omega
              have HAL : Hid (a + n ≤ 8 * L.length) := Lib.hid (by omega)
              refine wp_regionQ (by kernel_rfl) (by kernel_rfl) ?_
              refine wpQ_yes (by kernel_rfl) (fun K hK => ?_)
              go_simp
              refine hK _ ?_
              clear hK K
              refine wpQ_yes (by kernel_rfl) (fun K hK => ?_)
              go_simp
              refine hK _ ?_
              clear hK K
              refine wpQ_yes (by kernel_rfl) (fun K hK => ?_)
              go_simp
              refine hK _ ?_
              clear hK K
              refine wpQ_yes (by kernel_rfl) (fun K hK => ?_)
              go_simp
              refine hK _ ?_
              clear hK K
              refine wpQ_yes (by kernel_rfl) (fun K hK => ?_)
              go_simp
              refine hK _ ?_
              clear hK K
              refine wpQ_yes (by kernel_rfl) (fun K hK => ?_)
              go_simp
              refine hK _ ?_
              clear hK K
              refine wpQ_yes (by kernel_rfl) (fun K hK => ?_)
              go_simp
              refine hK _ ?_
              clear hK K
              refine wpQ_yes (by kernel_rfl) (fun K hK => ?_)
              go_simp
              refine hK _ ?_
              clear hK K
              refine wpQ_yes (by kernel_rfl) (fun K hK => ?_)
              go_simp
              refine hK _ ?_
              clear hK K
              refine wpQ_yes (by kernel_rfl) (fun K hK => ?_)
              go_simp
              refine hK _ ?_
              clear hK K
              refine wpQ_yes (by kernel_rfl) (fun K hK => ?_)
              go_simp
              refine hK _ ?_
              clear hK K
              refine wpQ_yes (by kernel_rfl) (fun K hK => ?_)
              go_simp
              refine hK _ ?_
              clear hK K
              refine wpQ_nil ?_
              go_wp2_with fail
              clear t2 hlz c0 c1
              go_loopw [8] (fun z wr => ∃ j : Nat, j ≤ i ∧ z = .int .i64 j ∧ Hid (Ext w wr) ∧ Hid (∀ k, k < j → ¬ Inf.Hit L f i a n k)) (fun z _ => i - (intOf z).toNat)
              case atStart => exact ⟨0, by omega, rfl, Lib.hid (HX.out.drewN 1), Lib.hid (fun k hk => by omega)⟩
              case round =>
                obtain ⟨j, hj, rfl, HY, HJ⟩ := hrel
                by_cases hlj : j < i
                · have hcc := HCv.out.ext HY.out
                  have hc := (hcc j hlj).1
                  obtain ⟨S, hS⟩ : ∃ S, bs (Bts.high (word f i j) (f j).toNat) = S := ⟨_, rfl⟩
                  have hSs : S.size = (f j).toNat := by rw [← hS, bs_size, Bts.high_length]
                  have hfb := HFB.out j hlj
                  simp only [hS] at hc
                  have wi : ∀ z, z = (j : Int) + 1 → IntKind.i64.wrap z = z := by rintro _ rfl; rw [IntKind.wrap_i64]; omega
                  have hjI : (j : Int) < (i : Int) := by omega
                  have HBy := Lib.hid (HB.out.ext HY.out)
                  have c0 := HBy.out.cell 0
                  have c1 := HBy.out.cell 1
                  simp only [qc] at c0 c1
                  have HSs := Lib.hid hSs
                  have HS := Lib.hid hS
                  by_cases hsn : S.size = n
                  · have t3 : ((S.size : Int) == (n : Int)) = true := beq_iff_eq.2 (by omega)
                    have haA2 : (a : Int) ≤ (A : Int) := by omega
                    have hAZ2 : (A : Int) ≤ (Z : Int) := by omega
                    have ha0 : (0 : Int) ≤ (a : Int) := by omega
                    have haA : a ≤ A := by omega
                    have hat : ((a : Nat) : Int).toNat = a := by omega
                    have hAt : ((A : Nat) : Int).toNat = A := by omega
                    have hAT : A ≤ T.size := by omega
                    obtain ⟨X, hX⟩ : ∃ X, T.extract a A = X := ⟨_, rfl⟩
                    have hXs : X = bs (((Bts.allB L).drop a).take n) := by rw [← hX, ← HT.out, bs_extract _ _ _ haA, show A - a = n by omega]
                    have hw2 : word f i j < 2 ^ n := by
                      have := (word_lt2 f i j n HGd.out.2 hlj (by omega) hn1 (by omega)).2; exact this
                    have hiff : S = X ↔ word f i j = codeAt (Crc.num L) a n := by
                      rw [← word_bits L a n _ HAL.out hw2, hXs, ← hS]
                      have e1 : (f j).toNat = n := by omega
                      rw [e1]
                      exact ⟨fun h => bs_inj h, fun h => by rw [h]⟩
                    have HI := Lib.hid hiff
                    by_cases hSX : S = X
                    · have HH : Hid (Inf.Hit L f i a n j) := Lib.hid ⟨hn1, by omega, HAL.out, hlj, by omega, HI.out.1 hSX⟩
                      have HQ : Hid (g = .ok (j, A)) := Lib.hid (by rw [← HG.out, ← hA]; exact Inf.nxt_hit HGd.out.2 HH.out)
                      have HBA := Lib.hid ((HBy.out.drewN 1).put1 A)
                      subst hSX
                      have t4 : (S.toList == S.toList) = true := beq_self_eq_true _
                      clear hS hSs hXs hiff hw2 hsz hfb hZ hA
                      go_wp2_with fail
                      refine wp_regionQ (by kernel_rfl) (by kernel_rfl) ?_
                      refine wpQ_yes (by kernel_rfl) (fun K hK => ?_)
                      go_simp
                      refine hK _ ?_
                      clear hK K
                      refine wpQ_yes (by kernel_rfl) (fun K hK => ?_)
                      go_simp
                      refine hK _ ?_
                      clear hK K
                      refine wpQ_yes (by kernel_rfl) (fun K hK => ?_)
                      go_simp
                      refine hK _ ?_
                      clear hK K
                      refine wpQ_yes (by kernel_rfl) (fun K hK => ?_)
                      go_simp
                      refine hK _ ?_
                      clear hK K
                      refine wpQ_yes (by kernel_rfl) (fun K hK => ?_)
                      go_simp
                      refine hK _ ?_
                      clear hK K
                      refine wpQ_yes (by kernel_rfl) (fun K hK => ?_)
                      go_simp
                      refine hK _ ?_
                      clear hK K
                      refine wpQ_yes (by kernel_rfl) (fun K hK => ?_)
                      go_simp
                      refine hK _ ?_
                      clear hK K
                      refine wpQ_yes (by kernel_rfl) (fun K hK => ?_)
                      go_simp
                      refine hK _ ?_
                      clear hK K
                      refine wpQ_yes (by kernel_rfl) (fun K hK => ?_)
                      go_simp
                      refine hK _ ?_
                      clear hK K
                      refine wpQ_yes (by kernel_rfl) (fun K hK => ?_)
                      go_simp
                      refine hK _ ?_
                      clear hK K
                      refine wpQ_yes (by kernel_rfl) (fun K hK => ?_)
                      go_simp
                      refine hK _ ?_
                      clear hK K
                      refine wpQ_yes (by kernel_rfl) (fun K hK => ?_)
                      go_simp
                      refine hK _ ?_
                      clear hK K
                      refine wpQ_yes (by kernel_rfl) (fun K hK => ?_)
                      go_simp
                      refine hK _ ?_
                      clear hK K
                      refine wpQ_yes (by kernel_rfl) (fun K hK => ?_)
                      go_simp
                      refine hK _ ?_
                      clear hK K
                      refine wpQ_yes (by kernel_rfl) (fun K hK => ?_)
                      go_simp
                      refine hK _ ?_
                      clear hK K
                      refine wpQ_yes (by kernel_rfl) (fun K hK => ?_)
                      go_simp
                      refine hK _ ?_
                      clear hK K
                      refine wpQ_yes (by kernel_rfl) (fun K hK => ?_)
                      go_simp
                      refine hK _ ?_
                      clear hK K
                      refine wpQ_yes (by kernel_rfl) (fun K hK => ?_)
                      go_simp
                      refine hK _ ?_
                      clear hK K
                      refine wpQ_yes (by kernel_rfl) (fun K hK => ?_)
                      go_simp
                      refine hK _ ?_
                      clear hK K
                      refine wpQ_yes (by kernel_rfl) (fun K hK => ?_)
                      go_simp
                      refine hK _ ?_
                      clear hK K
                      refine wpQ_yes (by kernel_rfl) (fun K hK => ?_)
                      go_simp
                      refine hK _ ?_
                      clear hK K
                      refine wpQ_yes (by kernel_rfl) (fun K hK => ?_)
                      go_simp
                      refine hK _ ?_
                      clear hK K
                      refine wpQ_yes (by kernel_rfl) (fun K hK => ?_)
                      go_simp
                      refine hK _ ?_
                      clear hK K
                      refine wpQ_yes (by kernel_rfl) (fun K hK => ?_)
                      go_simp
                      refine hK _ ?_
                      clear hK K
                      refine wpQ_yes (by kernel_rfl) (fun K hK => ?_)
                      go_simp
                      refine hK _ ?_
                      clear hK K
                      refine wpQ_yes (by kernel_rfl) (fun K hK => ?_)
                      go_simp
                      refine hK _ ?_
                      clear hK K
                      refine wpQ_yes (by kernel_rfl) (fun K hK => ?_)
                      go_simp
                      refine hK _ ?_
                      clear hK K
                      refine wpQ_yes (by kernel_rfl) (fun K hK => ?_)
                      go_simp
                      refine hK _ ?_
                      clear hK K
                      refine wpQ_yes (by kernel_rfl) (fun K hK => ?_)
                      go_simp
                      refine hK _ ?_
                      clear hK K
                      refine wpQ_nil ?_
                      have f1 := HBy.out.frozen 1
                      go_wp2_with fail
                      go_ret
                      exact gpost_ok HQ.out rfl ((((HY.out.drewN 1).keeps (S := fun k => k = Q))).setCell (p := ⟨Q, 1, none⟩) (.inl rfl) _) HBA.out
                    · have HJ2 : Hid (∀ k, k < j + 1 → ¬ Inf.Hit L f i a n k) := Lib.hid (fun k hk hh => by
                        rcases Nat.lt_succ_iff_lt_or_eq.1 hk with q | q
                        · exact HJ.out k q hh
                        · subst q; exact hSX (HI.out.2 hh.2.2.2.2.2))
                      have t4 : (S.toList == X.toList) = false := by
                        rw [ByteArray.toList_eq, ByteArray.toList_eq]
                        exact beq_eq_false_iff_ne.2 (fun q => hSX (bytes_ext q))
                      clear hS hSs hXs hiff hw2 hsz hfb hZ hA
                      go_wp2_with fail
                      refine wp_regionQ (by kernel_rfl) (by kernel_rfl) ?_
                      refine wpQ_yes (by kernel_rfl) (fun K hK => ?_)
                      go_simp
                      refine hK _ ?_
                      clear hK K
                      refine wpQ_yes (by kernel_rfl) (fun K hK => ?_)
                      go_simp
                      refine hK _ ?_
                      clear hK K
                      refine wpQ_yes (by kernel_rfl) (fun K hK => ?_)
                      go_simp
                      refine hK _ ?_
                      clear hK K
                      refine wpQ_yes (by kernel_rfl) (fun K hK => ?_)
                      go_simp
                      refine hK _ ?_
                      clear hK K
                      refine wpQ_yes (by kernel_rfl) (fun K hK => ?_)
                      go_simp
                      refine hK _ ?_
                      clear hK K
                      refine wpQ_yes (by kernel_rfl) (fun K hK => ?_)
                      go_simp
                      refine hK _ ?_
                      clear hK K
                      refine wpQ_yes (by kernel_rfl) (fun K hK => ?_)
                      go_simp
                      refine hK _ ?_
                      clear hK K
                      refine wpQ_yes (by kernel_rfl) (fun K hK => ?_)
                      go_simp
                      refine hK _ ?_
                      clear hK K
                      refine wpQ_yes (by kernel_rfl) (fun K hK => ?_)
                      go_simp
                      refine hK _ ?_
                      clear hK K
                      refine wpQ_yes (by kernel_rfl) (fun K hK => ?_)
                      go_simp
                      refine hK _ ?_
                      clear hK K
                      refine wpQ_yes (by kernel_rfl) (fun K hK => ?_)
                      go_simp
                      refine hK _ ?_
                      clear hK K
                      refine wpQ_yes (by kernel_rfl) (fun K hK => ?_)
                      go_simp
                      refine hK _ ?_
                      clear hK K
                      refine wpQ_yes (by kernel_rfl) (fun K hK => ?_)
                      go_simp
                      refine hK _ ?_
                      clear hK K
                      refine wpQ_yes (by kernel_rfl) (fun K hK => ?_)
                      go_simp
                      refine hK _ ?_
                      clear hK K
                      refine wpQ_yes (by kernel_rfl) (fun K hK => ?_)
                      go_simp
                      refine hK _ ?_
                      clear hK K
                      refine wpQ_yes (by kernel_rfl) (fun K hK => ?_)
                      go_simp
                      refine hK _ ?_
                      clear hK K
                      refine wpQ_yes (by kernel_rfl) (fun K hK => ?_)
                      go_simp
                      refine hK _ ?_
                      clear hK K
                      refine wpQ_yes (by kernel_rfl) (fun K hK => ?_)
                      go_simp
                      refine hK _ ?_
                      clear hK K
                      refine wpQ_yes (by kernel_rfl) (fun K hK => ?_)
                      go_simp
                      refine hK _ ?_
                      clear hK K
                      refine wpQ_yes (by kernel_rfl) (fun K hK => ?_)
                      go_simp
                      refine hK _ ?_
                      clear hK K
                      refine wpQ_yes (by kernel_rfl) (fun K hK => ?_)
                      go_simp
                      refine hK _ ?_
                      clear hK K
                      refine wpQ_yes (by kernel_rfl) (fun K hK => ?_)
                      go_simp
                      refine hK _ ?_
                      clear hK K
                      refine wpQ_yes (by kernel_rfl) (fun K hK => ?_)
                      go_simp
                      refine hK _ ?_
                      clear hK K
                      refine wpQ_yes (by kernel_rfl) (fun K hK => ?_)
                      go_simp
                      refine hK _ ?_
                      clear hK K
                      refine wpQ_yes (by kernel_rfl) (fun K hK => ?_)
                      go_simp
                      refine hK _ ?_
                      clear hK K
                      refine wpQ_yes (by kernel_rfl) (fun K hK => ?_)
                      go_simp
                      refine hK _ ?_
                      clear hK K
                      refine wpQ_yes (by kernel_rfl) (fun K hK => ?_)
                      go_simp
                      refine hK _ ?_
                      clear hK K
                      refine wpQ_yes (by kernel_rfl) (fun K hK => ?_)
                      go_simp
                      refine hK _ ?_
                      clear hK K
                      refine wpQ_yes (by kernel_rfl) (fun K hK => ?_)
                      go_simp
                      refine hK _ ?_
                      clear hK K
                      refine wpQ_nil ?_
                      go_wp2_with fail
                      go_roundw
                      case rel => exact ⟨j + 1, by omega, by go_num, Lib.hid (HY.out.drewN 1), HJ2⟩
                      case measure => simp [intOf]; omega
                  · have t3 : ((S.size : Int) == (n : Int)) = false := beq_eq_false_iff_ne.2 (by omega)
                    have n3 : ¬ S.size = n := hsn
                    have HJ2 : Hid (∀ k, k < j + 1 → ¬ Inf.Hit L f i a n k) := Lib.hid (fun k hk hh => by
                      rcases Nat.lt_succ_iff_lt_or_eq.1 hk with q | q
                      · exact HJ.out k q hh
                      · subst q
                        have h1 := hh.2.2.2.2.1
                        have h2 := HSs.out
                        omega)
                    clear hS hSs hsz hfb hZ hA
                    go_wp2_with fail
                    refine wp_regionQ (by kernel_rfl) (by kernel_rfl) ?_
                    refine wpQ_yes (by kernel_rfl) (fun K hK => ?_)
                    go_simp
                    refine hK _ ?_
                    clear hK K
                    refine wpQ_yes (by kernel_rfl) (fun K hK => ?_)
                    go_simp
                    refine hK _ ?_
                    clear hK K
                    refine wpQ_yes (by kernel_rfl) (fun K hK => ?_)
                    go_simp
                    refine hK _ ?_
                    clear hK K
                    refine wpQ_yes (by kernel_rfl) (fun K hK => ?_)
                    go_simp
                    refine hK _ ?_
                    clear hK K
                    refine wpQ_yes (by kernel_rfl) (fun K hK => ?_)
                    go_simp
                    refine hK _ ?_
                    clear hK K
                    refine wpQ_yes (by kernel_rfl) (fun K hK => ?_)
                    go_simp
                    refine hK _ ?_
                    clear hK K
                    refine wpQ_yes (by kernel_rfl) (fun K hK => ?_)
                    go_simp
                    refine hK _ ?_
                    clear hK K
                    refine wpQ_yes (by kernel_rfl) (fun K hK => ?_)
                    go_simp
                    refine hK _ ?_
                    clear hK K
                    refine wpQ_no (by kernel_rfl) ?_
                    try simp only [Act.put, List.getElem_toArray, List.getElem_cons_succ, List.getElem_cons_zero, List.setIfInBounds_toArray, List.set_cons_zero, List.set_cons_succ]
                    refine wpQ_no (by kernel_rfl) ?_
                    try simp only [Act.put, List.getElem_toArray, List.getElem_cons_succ, List.getElem_cons_zero, List.setIfInBounds_toArray, List.set_cons_zero, List.set_cons_succ]
                    refine wpQ_no (by kernel_rfl) ?_
                    try simp only [Act.put, List.getElem_toArray, List.getElem_cons_succ, List.getElem_cons_zero, List.setIfInBounds_toArray, List.set_cons_zero, List.set_cons_succ]
                    refine wpQ_no (by kernel_rfl) ?_
                    try simp only [Act.put, List.getElem_toArray, List.getElem_cons_succ, List.getElem_cons_zero, List.setIfInBounds_toArray, List.set_cons_zero, List.set_cons_succ]
                    refine wpQ_no (by kernel_rfl) ?_
                    try simp only [Act.put, List.getElem_toArray, List.getElem_cons_succ, List.getElem_cons_zero, List.setIfInBounds_toArray, List.set_cons_zero, List.set_cons_succ]
                    refine wpQ_no (by kernel_rfl) ?_
                    try simp only [Act.put, List.getElem_toArray, List.getElem_cons_succ, List.getElem_cons_zero, List.setIfInBounds_toArray, List.set_cons_zero, List.set_cons_succ]
                    refine wpQ_no (by kernel_rfl) ?_
                    try simp only [Act.put, List.getElem_toArray, List.getElem_cons_succ, List.getElem_cons_zero, List.setIfInBounds_toArray, List.set_cons_zero, List.set_cons_succ]
                    refine wpQ_no (by kernel_rfl) ?_
                    try simp only [Act.put, List.getElem_toArray, List.getElem_cons_succ, List.getElem_cons_zero, List.setIfInBounds_toArray, List.set_cons_zero, List.set_cons_succ]
                    refine wpQ_no (by kernel_rfl) ?_
                    try simp only [Act.put, List.getElem_toArray, List.getElem_cons_succ, List.getElem_cons_zero, List.setIfInBounds_toArray, List.set_cons_zero, List.set_cons_succ]
                    refine wpQ_no (by kernel_rfl) ?_
                    try simp only [Act.put, List.getElem_toArray, List.getElem_cons_succ, List.getElem_cons_zero, List.setIfInBounds_toArray, List.set_cons_zero, List.set_cons_succ]
                    refine wpQ_no (by kernel_rfl) ?_
                    try simp only [Act.put, List.getElem_toArray, List.getElem_cons_succ, List.getElem_cons_zero, List.setIfInBounds_toArray, List.set_cons_zero, List.set_cons_succ]
                    refine wpQ_no (by kernel_rfl) ?_
                    try simp only [Act.put, List.getElem_toArray, List.getElem_cons_succ, List.getElem_cons_zero, List.setIfInBounds_toArray, List.set_cons_zero, List.set_cons_succ]
                    refine wpQ_no (by kernel_rfl) ?_
                    try simp only [Act.put, List.getElem_toArray, List.getElem_cons_succ, List.getElem_cons_zero, List.setIfInBounds_toArray, List.set_cons_zero, List.set_cons_succ]
                    refine wpQ_no (by kernel_rfl) ?_
                    try simp only [Act.put, List.getElem_toArray, List.getElem_cons_succ, List.getElem_cons_zero, List.setIfInBounds_toArray, List.set_cons_zero, List.set_cons_succ]
                    refine wpQ_no (by kernel_rfl) ?_
                    try simp only [Act.put, List.getElem_toArray, List.getElem_cons_succ, List.getElem_cons_zero, List.setIfInBounds_toArray, List.set_cons_zero, List.set_cons_succ]
                    refine wpQ_no (by kernel_rfl) ?_
                    try simp only [Act.put, List.getElem_toArray, List.getElem_cons_succ, List.getElem_cons_zero, List.setIfInBounds_toArray, List.set_cons_zero, List.set_cons_succ]
                    refine wpQ_no (by kernel_rfl) ?_
                    try simp only [Act.put, List.getElem_toArray, List.getElem_cons_succ, List.getElem_cons_zero, List.setIfInBounds_toArray, List.set_cons_zero, List.set_cons_succ]
                    refine wpQ_no (by kernel_rfl) ?_
                    try simp only [Act.put, List.getElem_toArray, List.getElem_cons_succ, List.getElem_cons_zero, List.setIfInBounds_toArray, List.set_cons_zero, List.set_cons_succ]
                    refine wpQ_no (by kernel_rfl) ?_
                    try simp only [Act.put, List.getElem_toArray, List.getElem_cons_succ, List.getElem_cons_zero, List.setIfInBounds_toArray, List.set_cons_zero, List.set_cons_succ]
                    refine wpQ_no (by kernel_rfl) ?_
                    try simp only [Act.put, List.getElem_toArray, List.getElem_cons_succ, List.getElem_cons_zero, List.setIfInBounds_toArray, List.set_cons_zero, List.set_cons_succ]
                    refine wpQ_yes (by kernel_rfl) (fun K hK => ?_)
                    go_simp
                    refine hK _ ?_
                    clear hK K
                    refine wpQ_nil ?_
                    go_wp2_with fail
                    go_roundw
                    case rel => exact ⟨j + 1, by omega, by go_num, Lib.hid (HY.out.drewN 1), HJ2⟩
                    case measure => simp [intOf]; omega
                · obtain rfl : j = i := by omega
                  have HN2 : Hid (NobE 0 L f j a (n + 1)) := Lib.hid (fun _ m k hm hh => by
                    rcases Nat.lt_succ_iff_lt_or_eq.1 hm with q | q
                    · exact HN.out rfl m k q hh
                    · subst q; exact HJ.out k hh.2.2.2.1 hh)
                  have wi : ∀ z, z = (n : Int) + 1 → IntKind.i64.wrap z = z := by rintro _ rfl; rw [IntKind.wrap_i64]; omega
                  go_wp2_with fail
                  go_roundw
                  case rel => exact ⟨n + 1, by omega, by omega, by go_num, HY, HN2⟩
                  case measure => simp [intOf]; omega
          · have hd : decide (e = 0) = false := decide_eq_false he
            have hfl : fl e 1 = e := if_neg he
            rw [hd]
            go_wp2_with fail
            refine (HF.out _ HBo.out).mono ?_
            rintro r w1 ⟨rfl, hB1, hK1⟩
            rw [hfl] at hB1
            have HB1 := Lib.hid hB1
            have HK1 := Lib.hid ((HX.out.keeps (S := fun k => k = Q)).trans hK1 (fun _ _ q => q))
            clear hB1 hK1
            go_wp2_with fail
            go_ret
            exact gpost_dead he HK1.out HB1.out
        · have t1 : decide ((n : Int) ≤ (P : Int)) = false := decide_eq_false (by omega)
          have n1 : ¬ n ≤ P := hnP
          have HBo := Lib.hid (HB.out.ext HX.out)
          go_wp2_with fail
          refine (HF.out wr HBo.out).mono ?_
          rintro r w1 ⟨rfl, hB1, hK1⟩
          have HB1 := Lib.hid hB1
          have HK1 := Lib.hid ((HX.out.keeps (S := fun k => k = Q)).trans hK1 (fun _ _ q => q))
          clear hB1 hK1
          go_wp2_with fail
          go_ret
          by_cases he : e = 0
          · subst he
            refine gpost_err (c := 0) ?_ HK1.out HB1.out
            rw [← HG.out]
            refine Inf.nxt_none fun m k hh => ?_
            have h1 := hh.2.2.2.2.1
            have h2 := mx_ge f i k hh.2.2.2.1
            have h3 := HP.out
            exact HN.out rfl m k (by omega) hh
          · have hfl : fl e 1 = e := if_neg he
            have q := HB1.out
            rw [hfl] at q
            exact gpost_dead he HK1.out q
end Go.Proofs.YtnhbjgmfbcedaaaDoor
namespace Go.Proofs.YtnhbjgmfbcedaaaDoor
open Go.RowKit
set_option maxRecDepth 100000
theorem high_any (x k : Nat) (hx : x < 4294967296) (hk : k ≤ 64) (w : World) : Calls Tryd.prog 41 #[.int .u32 (x : Int), .int .i64 (k : Int)] w fun e w' => e = .returned (.string (bs (Bts.high x k))) ∧ Ext w w' := by
  go_enter Tryd.func41, Tryd.ntmps41
  go_wp2_with fail
  rw [show ({ data := #[] } : ByteArray) = bs [] from bs_nil]
  go_loopw [0, 5, 6] (fun p o c wr => ∃ i : Nat, i ≤ k ∧ c = .int .i64 i ∧ p = .int .u32 ((x / 2 ^ i : Nat) : Int) ∧ o = .string (bs (Bts.high x i)) ∧ Hid (Ext w wr)) (fun _ _ c _ => k - (intOf c).toNat)
  case atStart => exact ⟨0, by omega, rfl, by simp, rfl, Lib.hid (Ext.refl w)⟩
  case round =>
    obtain ⟨i, hi, rfl, rfl, rfl, HX⟩ := hrel
    by_cases hlt : i < k
    · obtain ⟨y, hy⟩ : ∃ y, x / 2 ^ i = y := ⟨_, rfl⟩
      have hy2 : x / 2 ^ (i + 1) = y / 2 := by rw [Nat.pow_succ, ← Nat.div_div_eq_div_mul, hy]
      have hyl : y < 4294967296 := by rw [← hy]; exact Nat.lt_of_le_of_lt (Nat.div_le_self _ _) hx
      have HL : Hid (bs [y % 2 == 1] ++ bs (Bts.high x i) = bs (Bts.high x (i + 1))) := Lib.hid (by rw [bs_append, Bts.high, hy]; rfl)
      have hz1 : (bs (Bts.high x i)).size ≤ 64 := by rw [bs_size, Bts.high_length]; omega
      have hz2 : (bs [y % 2 == 1]).size = 1 := by rw [bs_size]; rfl
      rw [hy]
      have HY2 := Lib.hid hy2
      clear hy hy2
      go_wp2_with fail
      refine (bit_any y _).mono ?_
      rintro e w2 ⟨rfl, hE⟩
      have HX2 := Lib.hid (HX.out.trans hE)
      clear hE
      go_wp2_with fail
      rw [HL.out]
      go_roundw
      case rel => exact ⟨i + 1, by omega, by go_num, by rw [HY2.out]; go_num, rfl, HX2⟩
      case measure => simp [intOf]; omega
    · obtain rfl : i = k := by omega
      go_wp2_with fail
      go_ret
      exact ⟨rfl, HX.out⟩
end Go.Proofs.YtnhbjgmfbcedaaaDoor
