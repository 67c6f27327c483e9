/-
  The document's bits of a text, and the number of bits.
  The document's reader of packed texts: its memory; ok, fail, align, get.
  A zipped text: its head, its sum.
-/
import Derived.Test.YtnhbjgmfbcedaaaDoorUnzipTellsG10
import Derived.Test.YtnhbjgmfbcedaaaDoorUnzipTellsG3
import Derived.Test.YtnhbjgmfbcedaaaDoorUnzipTellsG4
import Derived.StillTailTactics
import Derived.StillTactics
import Derived.Test.YtnhbjgmfbcedaaaDoorUnzipTellsG9
namespace Go.Proofs.YtnhbjgmfbcedaaaDoor
open Go.RowKit
set_option linter.unusedSimpArgs false
set_option maxRecDepth 100000
theorem val_allB (l : List UInt8) : Bts.val (Bts.allB l) = Crc.num l := by
  induction l with
  | nil => rfl
  | cons b l ih =>
    simp only [Bts.allB, Crc.num]
    rw [Bts.val_append, Bts.val_low, Bts.low_length, ih, Nat.mod_eq_of_lt b.toNat_lt]; omega
theorem bits_any (s : ByteArray) (w : World) (hs : s.size ≤ 1000000) :
    Calls Tryd.prog 40 #[.string s] w fun e w' => e = .returned (.string (bs (Bts.allB s.data.toList))) ∧ Ext w w' := by
  obtain ⟨i0, hi0, hz0, hz1, hz2⟩ := info_parts u8info
  obtain ⟨w2, hmk, hown, hgrow⟩ := run_make_own (P := Tryd.prog) w w.heap.size 61 5 i0 (.int .u8 0) 1 Tryd.underlying61 hi0 hz0 hz1 .i64 .i64 (8 * s.size) (by rw [hz2]; omega) (by unfold maxLen; omega) (Nat.le_refl _)
  have HO := Lib.hid hown
  have HG : Hid (Ext w w2) := (Keeps.grown hgrow).below (Nat.le_refl _) (fun k _ q => by cases q)
  rw [show ((8 * s.size : Nat) : Int) = 8 * (s.size : Int) by omega] at hmk
  clear hown hgrow
  go_enter Tryd.func40, Tryd.ntmps40
  go_wp2_with fail
  clear hmk
  have HO0 : Hid (w2.ownsRow w.heap.size 5 1 (.slice (some ⟨w.heap.size, 0, none⟩) 0 (8 * s.size)) (Bts.str (Bts.allB (s.data.toList.take 0))).length (bytesV (Bts.str (Bts.allB (s.data.toList.take 0))))) := HO
  clear HO
  go_loopw [3, 4] (fun u c wr => ∃ i : Nat, i ≤ s.size ∧ c = .int .i64 i ∧ Hid (wr.ownsRow w.heap.size 5 1 u (Bts.str (Bts.allB (s.data.toList.take i))).length (bytesV (Bts.str (Bts.allB (s.data.toList.take i))))) ∧ Hid (Ext w wr)) (fun _ c _ => s.size - (intOf c).toNat)
  case atStart => exact ⟨0, by omega, rfl, HO0, HG⟩
  case round =>
    obtain ⟨i, hi, rfl, HR, HX⟩ := hrel
    by_cases hlt : i < s.size
    · obtain ⟨b, hb⟩ : ∃ b, s[i].toNat = b := ⟨_, rfl⟩
      have hb256 : b < 256 := by rw [← hb]; exact s[i].toNat_lt
      have hts : Bts.allB (s.data.toList.take (i + 1)) = Bts.allB (s.data.toList.take i) ++ Bts.low b 8 := by
        rw [List.take_succ_eq_append_getElem (by simpa using hlt), Bts.allB_append, ← hb]; simp [Bts.allB]; rfl
      have hlen : (Bts.allB (s.data.toList.take i)).length ≤ 8 * i := by rw [Bts.allB_length]; simp; omega
      have HTS := Lib.hid hts
      obtain ⟨L, hL⟩ : ∃ L, Bts.allB (s.data.toList.take i) = L := ⟨_, rfl⟩
      rw [hL] at HR hlen
      have HLL := Lib.hid hL
      have HB := Lib.hid hb
      clear hts hL
      go_wp2_with fail
      clear hb
      go_loopw [3, 5, 6] (fun v n c wx => ∃ k : Nat, k ≤ 8 ∧ c = .int .i64 k ∧ n = .int .i64 ((b / 2 ^ k : Nat) : Int) ∧ Hid (wx.ownsRow w.heap.size 5 1 v (Bts.str (L ++ Bts.low b k)).length (bytesV (Bts.str (L ++ Bts.low b k)))) ∧ Hid (Ext w wx)) (fun _ _ c _ => 8 - (intOf c).toNat)
      case atStart => exact ⟨0, by omega, rfl, by simp, by simpa [Bts.low] using HR, HX⟩
      case round =>
        obtain ⟨k, hk, rfl, rfl, HR2, HX2⟩ := hrel
        by_cases hlk : k < 8
        · obtain ⟨y, hy⟩ : ∃ y, b / 2 ^ k = y := ⟨_, rfl⟩
          have hy2 : b / 2 ^ (k + 1) = y / 2 := by rw [Nat.pow_succ, ← Nat.div_div_eq_div_mul, hy]
          have hyl : y < 256 := by rw [← hy]; exact Nat.lt_of_le_of_lt (Nat.div_le_self _ _) hb256
          have HLW : Hid (Bts.str (L ++ Bts.low b (k + 1)) = Bts.str (L ++ Bts.low b k) ++ [Bts.ch (y % 2 == 1)]) := Lib.hid (by rw [Bts.low, hy, ← List.append_assoc, Bts.str_append (L ++ _)]; rfl)
          obtain ⟨M, hM⟩ : ∃ M, Bts.str (L ++ Bts.low b k) = M := ⟨_, rfl⟩
          have hMl : M.length ≤ 8 * i + 8 := by rw [← hM, Bts.str_length, List.length_append, Bts.low_length]; omega
          rw [hM] at HR2 HLW
          rw [hy]
          have HY2 := Lib.hid hy2
          clear hy hy2 hM
          go_wp2_with (at_builtin; refine wpList_append_own _ rfl _ _ 61 rfl w.heap.size 5 i0 (.int .u8 0) 1 1 Tryd.underlying61 hi0 hz0 hz1 hz2 rfl (by decide) _ _ _ rfl (HR2.out.alloc _) ⟨wr.heap.size, 0, none⟩ 1 1 [.int .u8 (48 + (y : Int) % 2)] rfl rfl ?c1 ?c2 ?c3 ?c4 ?c5 ?_)
          case c1 => exact (cell_one_new _ _ _)
          case c2 => intro u hu; simp at hu; subst hu; rfl
          case c3 => unfold maxLen; omega
          case c4 => omega
          case c5 => have := HX2.out.size; simp; omega
          intro v' w' hown' hgrow _
          have hE : Ext w w' := Below.trans (HX2.out.alloc _) ((Keeps.grown hgrow).below (HX2.out.alloc _).size (fun k hk e => by have := (HR2.out.lt k e).1; omega))
          have hO : w'.ownsRow w.heap.size 5 1 v' (Bts.str (L ++ Bts.low b (k + 1))).length (bytesV (Bts.str (L ++ Bts.low b (k + 1)))) := by
            rw [HLW.out]
            have e : Value.int IntKind.u8 (48 + (y : Int) % 2) = .int .u8 ((Bts.ch (y % 2 == 1)).toNat : Int) := by
              rw [Bts.ch_toNat, Bts.bit_val]; go_num
            have q := hown'
            rw [e] at q
            simpa [bytesV] using q
          have HE := Lib.hid hE
          have HO := Lib.hid hO
          clear hE hO hown' hgrow HR2 HX2
          go_wp2_with fail
          go_roundw
          case rel => exact ⟨k + 1, by omega, by go_num, by rw [HY2.out]; go_num, HO, HE⟩
          case measure => simp [intOf]; omega
        · obtain rfl : k = 8 := by omega
          go_wp2_with fail
          go_roundw
          case rel => exact ⟨i + 1, by omega, by go_num, by rw [HTS.out, HLL.out]; exact HR2, HX2⟩
          case measure => simp [intOf]; omega
    · obtain rfl : i = s.size := by omega
      obtain ⟨L, hL⟩ : ∃ L, Bts.str (Bts.allB (s.data.toList.take s.size)) = L := ⟨_, rfl⟩
      have HBS : Hid (bs (Bts.allB s.data.toList) = ⟨L.toArray⟩) := Lib.hid (by rw [← hL, List.take_of_length_le (by simp)]; exact bytes_ext (by rw [bs_list]))
      rw [hL] at HR
      clear hL
      rcases ownsRow_slice HR.out with ⟨rfl, h0⟩ | ⟨g, cap, rfl⟩
      · obtain rfl := List.eq_nil_of_length_eq_zero h0
        have hcr : (convert 61 9 (.slice none 0 0)).run Tryd.prog wr = .ok (.string ⟨([] : List UInt8).toArray⟩) wr := by
          rw [run_convert_bytes_string wr 61 9 5 none 0 0 Tryd.underlying61 Tryd.underlying5 Tryd.underlying9]
          rfl
        go_wp2_with fail
        go_ret
        exact ⟨by rw [HBS.out]; rfl, HX.out⟩
      · have hcr : (convert 61 9 (.slice (some ⟨g, 0, none⟩) L.length cap)).run Tryd.prog wr = .ok (.string ⟨L.toArray⟩) wr := by
          refine run_convert_bytes_back (P := Tryd.prog) wr 61 9 5 ⟨g, 0, none⟩ _ L Tryd.underlying61 Tryd.underlying5 Tryd.underlying9 (fun j hj => ?_)
          rw [add_plain, HR.out.cellAt _ (by omega), bytesV_get L _ hj]
        go_wp2_with fail
        go_ret
        exact ⟨by rw [HBS.out]; rfl, HX.out⟩
theorem str_get (L : List Bool) (s : ByteArray) (hs : s.data.toList = Bts.str L) (i : Nat) (h : i < s.size) (hL : i < L.length) : s[i].toNat = 48 + (if L[i] = true then 1 else 0) := by
  rw [← Bts.ch_toNat]
  congr 1
  have e : s[i] = s.data.toList[i]'(by simpa using h) := rfl
  rw [e]
  simp only [hs, Bts.str, List.getElem_map]
theorem lowOf_any (L : List Bool) (w : World) (h : L.length ≤ 32) :
    Calls Tryd.prog 85 #[.string (bs L)] w fun e w' => e = .returned (.int .u32 (Bts.val L : Int)) ∧ w = w' := by
  have hz := bs_size L
  have hs : (bs L).size ≤ 32 := by omega
  have HS := Lib.hid (bs_list L)
  have HZ := Lib.hid hz
  clear hz
  generalize bs L = s at *
  go_enter Tryd.func85, Tryd.ntmps85
  go_wp2_with fail
  go_loop [3, 4] (fun n c => ∃ d : Nat, d ≤ s.size ∧ c = .int .i64 ((d : Int) - 1) ∧ n = .int .u32 (Bts.val (L.drop d) : Int)) (fun _ c => (intOf c + 1).toNat)
  case atStart => exact ⟨s.size, by omega, rfl, by rw [List.drop_of_length_le (by rw [HZ.out]; exact Nat.le_refl _)]; rfl⟩
  case round =>
    obtain ⟨d, hd, rfl, rfl⟩ := hrel
    by_cases hlt : 0 < d
    · obtain ⟨j, rfl⟩ : ∃ j, d = j + 1 := ⟨d - 1, by omega⟩
      have hjL : j < L.length := by have := HZ.out; omega
      have hb := str_get L s HS.out j hd hjL
      have hv : Bts.val (L.drop j) = (if L[j] = true then 1 else 0) + 2 * Bts.val (L.drop (j + 1)) := by rw [List.drop_eq_getElem_cons hjL]; rfl
      have hvl : Bts.val (L.drop j) < 4294967296 := by
        refine Nat.lt_of_lt_of_le (Bts.val_lt _) (Nat.le_trans (Nat.pow_le_pow_right (n := 2) (by decide) (?_ : _ ≤ 32)) (by decide))
        rw [List.length_drop]; omega
      have hb2 : (if L[j] = true then 1 else 0) ≤ 1 := by split <;> omega
      obtain ⟨b, hbb⟩ : ∃ b, (if L[j] = true then 1 else 0) = b := ⟨_, rfl⟩
      rw [hbb] at hb hv hb2
      obtain ⟨V, hV⟩ : ∃ V, Bts.val (L.drop (j + 1)) = V := ⟨_, rfl⟩
      rw [hV] at hv
      have HV := Lib.hid hv
      have hVl : b + 2 * V < 4294967296 := by rw [← hv]; exact hvl
      clear hv hvl hbb
      rw [show (((j + 1 : Nat) : Int) - 1) = (j : Int) by omega, hV]
      clear hV
      go_wp2_with fail
      go_round
      case rel => exact ⟨j, by omega, rfl, by rw [HV.out]; go_num⟩
      case measure => first | (simp [intOf]; done) | (simp [intOf]; omega)
    · obtain rfl : d = 0 := by omega
      rw [show (((0 : Nat) : Int) - 1) = -1 by omega]
      go_wp2_with fail
      go_ret
      exact ⟨by simp, rfl⟩
end Go.Proofs.YtnhbjgmfbcedaaaDoor
namespace Go.Proofs.YtnhbjgmfbcedaaaDoor
open Go.RowKit
set_option linter.unusedSimpArgs false
set_option maxRecDepth 100000
/-- a still region, step by step (the kernel alone reckons which operations are wanted) -/
@[irreducible] def wpQ (P : Program) (ops : Array Oper) (w : World) (Q : Act → Prop) (l : List Oper) (a : Act) : Prop := wpStill P ops w Q l a
theorem wpQ_eq {P : Program} {ops : Array Oper} {w : World} {Q : Act → Prop} {l : List Oper} {a : Act} : wpQ P ops w Q l a = wpStill P ops w Q l a := by unfold wpQ; rfl
theorem wpQ_nil {P : Program} {ops : Array Oper} {w : World} {Q : Act → Prop} {a : Act} (h : Q a) : wpQ P ops w Q [] a := by rw [wpQ_eq]; exact h
theorem wpQ_no {P : Program} {ops : Array Oper} {w : World} {Q : Act → Prop} {a : Act} {o : Oper} {rest : List Oper} (hw : Region.wanted o (yielded ops a.tmps) = false) (h : wpQ P ops w Q rest (a.put o.dst undef)) : wpQ P ops w Q (o :: rest) a := by
  rw [wpQ_eq] at h ⊢
  unfold wpStill; rw [hw]; exact h
theorem wpQ_yes {P : Program} {ops : Array Oper} {w : World} {Q : Act → Prop} {a : Act} {o : Oper} {rest : List Oper} (hw : Region.wanted o (yielded ops a.tmps) = true)
    (h : ∀ K : Act → Prop, (∀ a, wpQ P ops w Q rest a → K a) → o.still P a w K) : wpQ P ops w Q (o :: rest) a := by
  rw [wpQ_eq]
  unfold wpStill; rw [hw]; exact h _ (fun _ q => by rw [wpQ_eq] at q; exact q)
theorem wp_regionQ {P : Program} {id : Nat} {Q : Exit → Act → World → Prop} {a : Act} {w : World} {l : List Oper} (hm : P.follows .mixedOrders = true) (hB : Region.lexB .any l.toArray = true)
    (h : wpQ P l.toArray w.drew (fun a' => Q .normal a' w.drew) l a) : (Code.region id l.toArray true).wp P Q a w :=
  wp_region_still_lit hm hB (by rw [wpQ_eq] at h; exact h)
/-- a reader's cells: its bits, its place, its error's number; the others by a function -/
def qc (T : ByteArray) (a e : Nat) (x : Nat → Value) : Array Value := #[.string T, .int .i64 (a : Int), x 2, x 3, .int .i64 (e : Int), x 5, x 6, x 7, x 8, x 9, x 10, x 11]
theorem qc_congr {T : ByteArray} {a e : Nat} {x y : Nat → Value} (h : ∀ i, i < 12 → x i = y i) : qc T a e x = qc T a e y := by
  unfold qc; rw [h 2 (by decide), h 3 (by decide), h 5 (by decide), h 6 (by decide), h 7 (by decide), h 8 (by decide), h 9 (by decide), h 10 (by decide), h 11 (by decide)]
def xset (x : Nat → Value) (i : Nat) (v : Value) : Nat → Value := fun j => if j = i then v else x j
theorem rok_any (Q a e : Nat) (T : ByteArray) (x : Nat → Value) (w : World) (hB : Bk w Q (qc T a e x)) :
    Calls Tryd.prog 42 #[.pointer (some ⟨Q, 0, none⟩)] w fun r w' => r = .returned (.bool (decide (e = 0))) ∧ w' = w := by
  have c4 := hB.cell 4
  simp only [qc] at c4
  clear hB
  go_enter Tryd.func42, Tryd.ntmps42
  go_wp2_with fail
  go_ret
  exact ⟨ret_bool (by rw [Bool.eq_iff_iff]; simp), rfl⟩
theorem Bk.put1 {w : World} {Q a e : Nat} {T : ByteArray} {x : Nat → Value} (h : Bk w Q (qc T a e x)) (a' : Nat) : Bk (w.setCell ⟨Q, 1, none⟩ (.int .i64 (a' : Int))) Q (qc T a' e x) := by
  have := h.set_ 1 (.int .i64 (a' : Int)); simpa [qc] using this
theorem Bk.put4 {w : World} {Q a e : Nat} {T : ByteArray} {x : Nat → Value} (h : Bk w Q (qc T a e x)) (e' : Nat) : Bk (w.setCell ⟨Q, 4, none⟩ (.int .i64 (e' : Int))) Q (qc T a e' x) := by
  have := h.set_ 4 (.int .i64 (e' : Int)); simpa [qc] using this
theorem Bk.putx {w : World} {Q a e : Nat} {T : ByteArray} {x : Nat → Value} (h : Bk w Q (qc T a e x)) (i : Nat) (hi : i = 2 ∨ i = 5 ∨ i = 6 ∨ i = 7 ∨ i = 8 ∨ i = 9 ∨ i = 10 ∨ i = 11) (v : Value) : Bk (w.setCell ⟨Q, i, none⟩ v) Q (qc T a e (xset x i v)) := by
  have := h.set_ i v
  rcases hi with rfl | rfl | rfl | rfl | rfl | rfl | rfl | rfl <;> simpa [qc, xset] using this
theorem keepQ {w : World} {Q i : Nat} {v : Value} : Keeps (fun k => k = Q) w (w.setCell ⟨Q, i, none⟩ v) := (Keeps.refl (fun k => k = Q) w).setCell (p := ⟨Q, i, none⟩) (.inl rfl) v
def fl (e c : Nat) : Nat := if e = 0 then c else e
theorem rfail_any (Q a e c : Nat) (T : ByteArray) (x : Nat → Value) (w : World) (hB : Bk w Q (qc T a e x)) :
    Calls Tryd.prog 49 #[.pointer (some ⟨Q, 0, none⟩), .int .i64 (c : Int)] w fun r w' => r = .returned (.tuple #[]) ∧ Bk w' Q (qc T a (fl e c) x) ∧ Keeps (fun k => k = Q) w w' := by
  have c4 := hB.cell 4
  have f4 := hB.frozen 4
  simp only [qc] at c4
  by_cases he : e = 0
  · subst he
    have H := Lib.hid (hB.put4 c)
    clear hB
    go_enter Tryd.func49, Tryd.ntmps49
    go_wp2_with fail
    go_end0
    exact ⟨rfl, H.out, keepQ⟩
  · have hf : fl e c = e := if_neg he
    have t1 : ((e : Int) == 0) = false := beq_eq_false_iff_ne.2 (by omega)
    rw [hf]
    have H := Lib.hid hB
    clear hB
    go_enter Tryd.func49, Tryd.ntmps49
    go_wp2_with fail
    go_end0
    exact ⟨rfl, H.out, Keeps.refl _ _⟩
theorem ralgn_any (Q a e : Nat) (T : ByteArray) (x : Nat → Value) (w : World) (hB : Bk w Q (qc T a e x)) (ha : a ≤ 100000000) :
    Calls Tryd.prog 50 #[.pointer (some ⟨Q, 0, none⟩)] w fun r w' => r = .returned (.tuple #[]) ∧ Bk w' Q (qc T ((a + 7) / 8 * 8) e x) ∧ Keeps (fun k => k = Q) w w' := by
  have c1 := hB.cell 1
  have f1 := hB.frozen 1
  simp only [qc] at c1
  have e8 : ((a : Int) + 7) / 8 * 8 = (((a + 7) / 8 * 8 : Nat) : Int) := by omega
  have H := Lib.hid (hB.put1 ((a + 7) / 8 * 8))
  rw [← e8] at H
  have H8 := Lib.hid e8
  clear hB e8
  go_enter Tryd.func50, Tryd.ntmps50
  go_wp2_with fail
  go_end0
  exact ⟨rfl, H.out, keepQ⟩
/-- the number that stands next -/
theorem bits_num (L : List UInt8) (a k : Nat) (_h : a + k ≤ 8 * L.length) : Bts.val (((Bts.allB L).drop a).take k) = Crc.num L / 2 ^ a % 2 ^ k := by
  rw [Bts.val_take, Bts.val_drop, val_allB]
theorem bs_extract (M : List Bool) (a b : Nat) (_h : a ≤ b) : (bs M).extract a b = bs ((M.drop a).take (b - a)) := by
  apply bytes_ext
  rw [ex_list, bs_list, bs_list]
  simp [Bts.str, List.map_drop, List.map_take]
def GPost (Q : Nat) (T : ByteArray) (a e : Nat) (x : Nat → Value) (w : World) (g : Except Nat (Nat × Nat)) (r : Ending) (w' : World) : Prop :=
  Keeps (fun k => k = Q) w w' ∧ if e = 0 then
    match g with
    | .ok (n, a') => r = .returned (.int .i64 (n : Int)) ∧ Bk w' Q (qc T a' 0 x)
    | .error c => r = .returned (.int .i64 0) ∧ Bk w' Q (qc T a (c + 1) x)
  else r = .returned (.int .i64 0) ∧ Bk w' Q (qc T a e x)
set_option linter.unusedSimpArgs false in
set_option maxHeartbeats 4000000 in
theorem qget_any (Q a e k : Nat) (L : List UInt8) (x : Nat → Value) (w : World) (hB : Bk w Q (qc (bs (Bts.allB L)) a e x)) (hk : k ≤ 16) (ha : a ≤ 8 * L.length) (hL : L.length ≤ 300000) :
    Calls Tryd.prog 43 #[.pointer (some ⟨Q, 0, none⟩), .int .i64 (k : Int)] w fun r w' => GPost Q (bs (Bts.allB L)) a e x w (Inf.get L k a) r w' := by
  have HO := Lib.hid (fun (w : World) (h : Bk w Q (qc (bs (Bts.allB L)) a e x)) => rok_any Q a e (bs (Bts.allB L)) x w h)
  have hsz : (bs (Bts.allB L)).size = 8 * L.length := by rw [bs_size, Bts.allB_length]
  obtain ⟨T, hT⟩ : ∃ T, bs (Bts.allB L) = T := ⟨_, rfl⟩
  rw [hT] at hB hsz HO ⊢
  have HT := Lib.hid hT
  have HB := Lib.hid hB
  have c0 := hB.cell 0
  have c1 := hB.cell 1
  have f1 := hB.frozen 1
  simp only [qc] at c0 c1
  have HSZ := Lib.hid hsz
  obtain ⟨Z, hZ⟩ : ∃ Z, T.size = Z := ⟨_, rfl⟩
  clear hB hT
  by_cases he : e = 0
  · subst he
    have hd : decide (0 = 0) = true := rfl
    obtain ⟨A, hA⟩ : ∃ A, a + k = A := ⟨_, rfl⟩
    have hAI : (a : Int) + (k : Int) = (A : Int) := by omega
    have wA : ∀ z, z = (A : Int) → IntKind.i64.wrap z = z := by rintro _ rfl; rw [IntKind.wrap_i64]; omega
    rw [hZ] at hsz
    by_cases hlt : Z < A
    · have t1 : decide ((Z : Int) < (A : Int)) = true := decide_eq_true (by omega)
      have HG : Hid (Inf.get L k a = .error 0) := Lib.hid (by unfold Inf.get; rw [if_neg (by omega)])
      clear hsz hA
      go_enter Tryd.func43, Tryd.ntmps43
      go_wp2_with fail
      refine wp_regionQ (by kernel_rfl) (by kernel_rfl) ?_
      refine wpQ_yes (by kernel_rfl) (fun K hK => ?_)
      go_simp
      refine hK _ ?_
      clear hK K
      refine wpQ_yes (by kernel_rfl) (fun K hK => ?_)
      go_simp
      refine ⟨_, HO.out _ HB.out.drew, hK _ ?_⟩
      clear hK K
      refine wpQ_yes (by kernel_rfl) (fun K hK => ?_)
      go_simp
      refine hK _ ?_
      clear hK K
      refine wpQ_yes (by kernel_rfl) (fun K hK => ?_)
      go_simp
      refine hK _ ?_
      clear hK K
      refine wpQ_yes (by kernel_rfl) (fun K hK => ?_)
      go_simp
      refine hK _ ?_
      clear hK K
      refine wpQ_yes (by kernel_rfl) (fun K hK => ?_)
      go_simp
      refine hK _ ?_
      clear hK K
      refine wpQ_yes (by kernel_rfl) (fun K hK => ?_)
      go_simp
      refine hK _ ?_
      clear hK K
      refine wpQ_yes (by kernel_rfl) (fun K hK => ?_)
      go_simp
      refine hK _ ?_
      clear hK K
      refine wpQ_yes (by kernel_rfl) (fun K hK => ?_)
      go_simp
      refine hK _ ?_
      clear hK K
      refine wpQ_yes (by kernel_rfl) (fun K hK => ?_)
      go_simp
      refine hK _ ?_
      clear hK K
      refine wpQ_yes (by kernel_rfl) (fun K hK => ?_)
      go_simp
      refine hK _ ?_
      clear hK K
      refine wpQ_yes (by kernel_rfl) (fun K hK => ?_)
      go_simp
      refine hK _ ?_
      clear hK K
      refine wpQ_yes (by kernel_rfl) (fun K hK => ?_)
      go_simp
      refine hK _ ?_
      clear hK K
      refine wpQ_yes (by kernel_rfl) (fun K hK => ?_)
      go_simp
      refine hK _ ?_
      clear hK K
      refine wpQ_yes (by kernel_rfl) (fun K hK => ?_)
      go_simp
      refine hK _ ?_
      clear hK K
      refine wpQ_yes (by kernel_rfl) (fun K hK => ?_)
      go_simp
      refine hK _ ?_
      clear hK K
      refine wpQ_yes (by kernel_rfl) (fun K hK => ?_)
      go_simp
      refine hK _ ?_
      clear hK K
      refine wpQ_nil ?_
      go_wp2_with fail
      refine (rfail_any Q a 0 1 T x _ HB.out.drew).mono ?_
      rintro r w1 ⟨rfl, hB1, hK1⟩
      have HB1 := Lib.hid hB1
      have HK1 := Lib.hid hK1
      clear hB1 hK1
      go_wp2_with fail
      go_ret
      refine ⟨⟨HK1.out.os, HK1.out.tape, HK1.out.output, HK1.out.size, HK1.out.block⟩, ?_⟩
      rw [if_pos rfl, HG.out]
      exact ⟨rfl, HB1.out⟩
    · have t1 : decide ((Z : Int) < (A : Int)) = false := decide_eq_false (by omega)
      have hAL : A ≤ 8 * L.length := by omega
      have HG : Hid (Inf.get L k a = .ok (Crc.num L / 2 ^ a % 2 ^ k, A)) := Lib.hid (by unfold Inf.get; rw [if_pos (by omega), hA])
      obtain ⟨M, hM⟩ : ∃ M, ((Bts.allB L).drop a).take k = M := ⟨_, rfl⟩
      have hML : M.length ≤ 32 := by rw [← hM, List.length_take]; omega
      have hext : T.extract a A = bs M := by rw [← HT.out, bs_extract _ _ _ (by omega), ← hM, show A - a = k by omega]
      have hval : Bts.val M = Crc.num L / 2 ^ a % 2 ^ k := by rw [← hM]; exact bits_num L a k (by omega)
      obtain ⟨nn, hnn⟩ : ∃ nn, Bts.val M = nn := ⟨_, rfl⟩
      have hnb : nn < 65536 := by
        rw [← hnn, hval]
        exact Nat.lt_of_lt_of_le (Nat.mod_lt _ (Nat.two_pow_pos _)) (Nat.pow_le_pow_right (by decide) hk)
      have HV : Hid (Crc.num L / 2 ^ a % 2 ^ k = nn) := Lib.hid (hval.symm.trans hnn)
      have HLow := Lib.hid (fun (w : World) => still_of (lowOf_any M w hML))
      rw [hnn] at HLow
      have wn : ∀ z, z = (nn : Int) → IntKind.i64.wrap z = z := by rintro _ rfl; rw [IntKind.wrap_i64]; omega
      have hBA := HB.out.drew.put1 A
      have HBA := Lib.hid hBA
      have k0 := hBA.cell 0
      have k1 := hBA.cell 1
      simp only [qc] at k0 k1
      have hsub : (A : Int) - (k : Int) = (a : Int) := by omega
      have wa : ∀ z, z = (a : Int) → IntKind.i64.wrap z = z := by rintro _ rfl; rw [IntKind.wrap_i64]; omega
      have haA : a ≤ A := by omega
      have haA2 : (a : Int) ≤ (A : Int) := by omega
      have hAZ : A ≤ Z := by omega
      have hAZ2 : (A : Int) ≤ (Z : Int) := by omega
      have ha0 : (0 : Int) ≤ (a : Int) := by omega
      have hat : ((a : Nat) : Int).toNat = a := by omega
      have hAt : ((A : Nat) : Int).toNat = A := by omega
      clear hsz hA hM hval hnn hBA
      go_enter Tryd.func43, Tryd.ntmps43
      go_wp2_with fail
      refine wp_regionQ (by kernel_rfl) (by kernel_rfl) ?_
      refine wpQ_yes (by kernel_rfl) (fun K hK => ?_)
      go_simp
      refine hK _ ?_
      clear hK K
      refine wpQ_yes (by kernel_rfl) (fun K hK => ?_)
      go_simp
      refine ⟨_, HO.out _ HB.out.drew, hK _ ?_⟩
      clear hK K
      refine wpQ_yes (by kernel_rfl) (fun K hK => ?_)
      go_simp
      refine hK _ ?_
      clear hK K
      refine wpQ_yes (by kernel_rfl) (fun K hK => ?_)
      go_simp
      refine hK _ ?_
      clear hK K
      refine wpQ_yes (by kernel_rfl) (fun K hK => ?_)
      go_simp
      refine hK _ ?_
      clear hK K
      refine wpQ_yes (by kernel_rfl) (fun K hK => ?_)
      go_simp
      refine hK _ ?_
      clear hK K
      refine wpQ_yes (by kernel_rfl) (fun K hK => ?_)
      go_simp
      refine hK _ ?_
      clear hK K
      refine wpQ_yes (by kernel_rfl) (fun K hK => ?_)
      go_simp
      refine hK _ ?_
      clear hK K
      refine wpQ_yes (by kernel_rfl) (fun K hK => ?_)
      go_simp
      refine hK _ ?_
      clear hK K
      refine wpQ_yes (by kernel_rfl) (fun K hK => ?_)
      go_simp
      refine hK _ ?_
      clear hK K
      refine wpQ_yes (by kernel_rfl) (fun K hK => ?_)
      go_simp
      refine hK _ ?_
      clear hK K
      refine wpQ_yes (by kernel_rfl) (fun K hK => ?_)
      go_simp
      refine hK _ ?_
      clear hK K
      refine wpQ_yes (by kernel_rfl) (fun K hK => ?_)
      go_simp
      refine hK _ ?_
      clear hK K
      refine wpQ_yes (by kernel_rfl) (fun K hK => ?_)
      go_simp
      refine hK _ ?_
      clear hK K
      refine wpQ_yes (by kernel_rfl) (fun K hK => ?_)
      go_simp
      refine hK _ ?_
      clear hK K
      refine wpQ_yes (by kernel_rfl) (fun K hK => ?_)
      go_simp
      refine hK _ ?_
      clear hK K
      refine wpQ_yes (by kernel_rfl) (fun K hK => ?_)
      go_simp
      refine hK _ ?_
      clear hK K
      refine wpQ_nil ?_
      go_wp2_with fail
      refine wp_world (fun wz => Bk wz Q (qc T A 0 x) ∧ Keeps (fun k => k = Q) w wz) ⟨HBA.out, (Keeps.refl (fun k => k = Q) w).drew.setCell (p := ⟨Q, 1, none⟩) (.inl rfl) _⟩ ?_
      rintro w2 ⟨h2, hK2⟩
      have H2 := Lib.hid h2
      have HK2 := Lib.hid hK2
      have j0 := h2.cell 0
      have j1 := h2.cell 1
      simp only [qc] at j0 j1
      clear h2 hK2 k0 k1 c0 c1 f1 t1 hlt
      refine wp_regionQ (by kernel_rfl) (by kernel_rfl) ?_
      refine wpQ_yes (by kernel_rfl) (fun K hK => ?_)
      go_simp
      refine hK _ ?_
      clear hK K
      refine wpQ_yes (by kernel_rfl) (fun K hK => ?_)
      go_simp
      refine hK _ ?_
      clear hK K
      refine wpQ_yes (by kernel_rfl) (fun K hK => ?_)
      go_simp
      refine hK _ ?_
      clear hK K
      refine wpQ_yes (by kernel_rfl) (fun K hK => ?_)
      go_simp
      refine hK _ ?_
      clear hK K
      refine wpQ_yes (by kernel_rfl) (fun K hK => ?_)
      go_simp
      refine hK _ ?_
      clear hK K
      refine wpQ_yes (by kernel_rfl) (fun K hK => ?_)
      go_simp
      refine hK _ ?_
      clear hK K
      refine wpQ_yes (by kernel_rfl) (fun K hK => ?_)
      go_simp
      refine hK _ ?_
      clear hK K
      refine wpQ_yes (by kernel_rfl) (fun K hK => ?_)
      go_simp
      refine hK _ ?_
      clear hK K
      refine wpQ_yes (by kernel_rfl) (fun K hK => ?_)
      go_simp
      refine hK _ ?_
      clear hK K
      refine wpQ_yes (by kernel_rfl) (fun K hK => ?_)
      go_simp
      refine hK _ ?_
      clear hK K
      refine wpQ_yes (by kernel_rfl) (fun K hK => ?_)
      go_simp
      refine hK _ ?_
      clear hK K
      refine wpQ_yes (by kernel_rfl) (fun K hK => ?_)
      go_simp
      refine hK _ ?_
      clear hK K
      refine wpQ_yes (by kernel_rfl) (fun K hK => ?_)
      go_simp
      refine hK _ ?_
      clear hK K
      refine wpQ_yes (by kernel_rfl) (fun K hK => ?_)
      go_simp
      refine hK _ ?_
      clear hK K
      refine wpQ_yes (by kernel_rfl) (fun K hK => ?_)
      go_simp
      refine hK _ ?_
      clear hK K
      refine wpQ_yes (by kernel_rfl) (fun K hK => ?_)
      go_simp
      refine ⟨_, HLow.out _, hK _ ?_⟩
      clear hK K
      refine wpQ_yes (by kernel_rfl) (fun K hK => ?_)
      go_simp
      refine hK _ ?_
      clear hK K
      refine wpQ_yes (by kernel_rfl) (fun K hK => ?_)
      go_simp
      refine hK _ ?_
      clear hK K
      refine wpQ_nil ?_
      go_wp2_with fail
      go_ret
      refine ⟨HK2.out.drew, ?_⟩
      rw [if_pos rfl, HG.out, HV.out]
      exact ⟨rfl, H2.out⟩
  · have hd : decide (e = 0) = false := decide_eq_false he
    have hfl : fl e 1 = e := if_neg he
    go_enter Tryd.func43, Tryd.ntmps43
    go_wp2_with fail
    refine wp_regionQ (by kernel_rfl) (by kernel_rfl) ?_
    refine wpQ_yes (by kernel_rfl) (fun K hK => ?_)
    go_simp
    refine hK _ ?_
    clear hK K
    refine wpQ_yes (by kernel_rfl) (fun K hK => ?_)
    go_simp
    refine ⟨_, HO.out _ HB.out.drew, hK _ ?_⟩
    clear hK K
    refine wpQ_yes (by kernel_rfl) (fun K hK => ?_)
    go_simp
    refine hK _ ?_
    clear hK K
    refine wpQ_yes (by kernel_rfl) (fun K hK => ?_)
    go_simp
    refine hK _ ?_
    clear hK K
    refine wpQ_no (by kernel_rfl) ?_
    try simp only [Act.put, List.getElem_toArray, List.getElem_cons_succ, List.getElem_cons_zero, List.setIfInBounds_toArray, List.set_cons_zero, List.set_cons_succ]
    refine wpQ_no (by kernel_rfl) ?_
    try simp only [Act.put, List.getElem_toArray, List.getElem_cons_succ, List.getElem_cons_zero, List.setIfInBounds_toArray, List.set_cons_zero, List.set_cons_succ]
    refine wpQ_no (by kernel_rfl) ?_
    try simp only [Act.put, List.getElem_toArray, List.getElem_cons_succ, List.getElem_cons_zero, List.setIfInBounds_toArray, List.set_cons_zero, List.set_cons_succ]
    refine wpQ_no (by kernel_rfl) ?_
    try simp only [Act.put, List.getElem_toArray, List.getElem_cons_succ, List.getElem_cons_zero, List.setIfInBounds_toArray, List.set_cons_zero, List.set_cons_succ]
    refine wpQ_no (by kernel_rfl) ?_
    try simp only [Act.put, List.getElem_toArray, List.getElem_cons_succ, List.getElem_cons_zero, List.setIfInBounds_toArray, List.set_cons_zero, List.set_cons_succ]
    refine wpQ_no (by kernel_rfl) ?_
    try simp only [Act.put, List.getElem_toArray, List.getElem_cons_succ, List.getElem_cons_zero, List.setIfInBounds_toArray, List.set_cons_zero, List.set_cons_succ]
    refine wpQ_no (by kernel_rfl) ?_
    try simp only [Act.put, List.getElem_toArray, List.getElem_cons_succ, List.getElem_cons_zero, List.setIfInBounds_toArray, List.set_cons_zero, List.set_cons_succ]
    refine wpQ_no (by kernel_rfl) ?_
    try simp only [Act.put, List.getElem_toArray, List.getElem_cons_succ, List.getElem_cons_zero, List.setIfInBounds_toArray, List.set_cons_zero, List.set_cons_succ]
    refine wpQ_no (by kernel_rfl) ?_
    try simp only [Act.put, List.getElem_toArray, List.getElem_cons_succ, List.getElem_cons_zero, List.setIfInBounds_toArray, List.set_cons_zero, List.set_cons_succ]
    refine wpQ_no (by kernel_rfl) ?_
    try simp only [Act.put, List.getElem_toArray, List.getElem_cons_succ, List.getElem_cons_zero, List.setIfInBounds_toArray, List.set_cons_zero, List.set_cons_succ]
    refine wpQ_no (by kernel_rfl) ?_
    try simp only [Act.put, List.getElem_toArray, List.getElem_cons_succ, List.getElem_cons_zero, List.setIfInBounds_toArray, List.set_cons_zero, List.set_cons_succ]
    refine wpQ_no (by kernel_rfl) ?_
    try simp only [Act.put, List.getElem_toArray, List.getElem_cons_succ, List.getElem_cons_zero, List.setIfInBounds_toArray, List.set_cons_zero, List.set_cons_succ]
    refine wpQ_yes (by kernel_rfl) (fun K hK => ?_)
    go_simp
    refine hK _ ?_
    clear hK K
    refine wpQ_nil ?_
    go_wp2_with fail
    refine (rfail_any Q a e 1 T x _ HB.out.drew).mono ?_
    rintro r w1 ⟨rfl, hB1, hK1⟩
    rw [hfl] at hB1
    have HB1 := Lib.hid hB1
    have HK1 := Lib.hid hK1
    clear hB1 hK1
    go_wp2_with fail
    go_ret
    refine ⟨⟨HK1.out.os, HK1.out.tape, HK1.out.output, HK1.out.size, HK1.out.block⟩, ?_⟩
    rw [if_neg he]
    exact ⟨rfl, HB1.out⟩
end Go.Proofs.YtnhbjgmfbcedaaaDoor
namespace Go.Proofs.YtnhbjgmfbcedaaaDoor
open Go.RowKit
set_option linter.unusedSimpArgs false
set_option maxRecDepth 100000
theorem u8_15 (x : Nat) (hx : x < 256) : bits BinOp.and IntKind.u8 (x : Int) 15 = ((x % 16 : Nat) : Int) := by
  rw [show (15 : Int) = ((15 : Nat) : Int) from rfl, u8_and_nat x 15 hx (by decide), nat_mask4]
theorem u8_32 (x : Nat) (hx : x < 256) : (bits BinOp.and IntKind.u8 (x : Int) 32 != 0) = decide (x / 32 % 2 ≠ 0) := by
  rw [show (32 : Int) = ((32 : Nat) : Int) from rfl, u8_and_nat x 32 hx (by decide)]
  have : ∀ x, x < 256 → ((((x &&& 32 : Nat) : Int) != 0) = decide (x / 32 % 2 ≠ 0)) := by decide +kernel
  exact this x hx
theorem i64_or8 (x y : Nat) (hx : x < 256) (hy : y < 256) : bits BinOp.or IntKind.i64 ((x : Int) * 256) (y : Int) = ((x * 256 + y : Nat) : Int) := by
  rw [show ((x : Int) * 256) = ((x * 256 : Nat) : Int) by omega, ← nat_join 8 (x * 256) y (by omega) (by omega)]
  show IntKind.i64.wrap ((BitVec.ofInt 64 ((x * 256 : Nat) : Int) ||| BitVec.ofInt 64 (y : Int)).toNat : Int) = _
  have hx2 : x * 256 ||| y < 2 ^ 16 := Nat.or_lt_two_pow (by omega) (by omega)
  rw [BitVec.ofInt_natCast, BitVec.ofInt_natCast, BitVec.toNat_or, BitVec.toNat_ofNat, BitVec.toNat_ofNat, Nat.mod_eq_of_lt (by omega), Nat.mod_eq_of_lt (by omega), IntKind.wrap_i64]
  omega
namespace Inf
/-- the head of a zipped text -/
def headOk (s : ByteArray) : Prop := 2 ≤ s.size ∧ (s.data.toList.getD 0 0).toNat % 16 = 8 ∧ (s.data.toList.getD 0 0).toNat / 16 ≤ 7 ∧ ((s.data.toList.getD 0 0).toNat * 256 + (s.data.toList.getD 1 0).toNat) % 31 = 0 ∧ (s.data.toList.getD 1 0).toNat / 32 % 2 = 0
instance (s : ByteArray) : Decidable (headOk s) := by unfold headOk; infer_instance
noncomputable def unz (s : ByteArray) (most : Int) : Except Nat (List UInt8) :=
  if most < 0 ∨ 300000 < most ∨ 300000 < s.size then .error 1 else
  if ¬ headOk s then .error 0 else
  match infl (s.extract 2 s.size) most with
  | .error c => .error c
  | .ok (out, used, _) => if s.size ≠ 2 + used + 4 then .error 0 else if valN (s.data.toList.drop (2 + used)) ≠ Adl.adler out then .error 3 else .ok out
end Inf
theorem head_is (s : ByteArray) (h1 : 1 < s.size) : Inf.headOk s ↔ (s[0].toNat % 16 = 8 ∧ s[0].toNat / 16 ≤ 7 ∧ (s[0].toNat * 256 + s[1].toNat) % 31 = 0 ∧ s[1].toNat / 32 % 2 = 0) := by
  have e0 : s.data.toList.getD 0 0 = s[0] := by rw [List.getD, List.getElem?_eq_getElem (by rw [bytes_len]; omega)]; rfl
  have e1 : s.data.toList.getD 1 0 = s[1] := by rw [List.getD, List.getElem?_eq_getElem (by rw [bytes_len]; omega)]; rfl
  unfold Inf.headOk
  rw [e0, e1]
  exact ⟨fun h => h.2, fun h => ⟨h1, h⟩⟩
def UzPost (w w' : World) (E : Nat → Addr) (r : Except Nat (List UInt8)) (e : Ending) : Prop :=
  Ext w w' ∧ match r with
  | .ok out => e = .returned (.tuple #[.string (tb out), .nilIface])
  | .error c => e = .returned (.tuple #[.string ⟨#[]⟩, sentV (E c)])
def UoPost (r : Except Nat (List UInt8)) (e : Ending) : Prop :=
  match r with
  | .ok out => e = .returned (.tuple #[.string (tb out), .int .i64 0])
  | .error c => e = .returned (.tuple #[.string ⟨#[]⟩, .int .i64 ((c + 1 : Nat) : Int)])
end Go.Proofs.YtnhbjgmfbcedaaaDoor
