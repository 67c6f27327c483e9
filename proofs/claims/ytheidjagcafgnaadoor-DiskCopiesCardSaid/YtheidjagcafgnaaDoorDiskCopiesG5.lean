/-
  DiskKeeps' walk.
  errors.Is at a sentinel: of a sentinel, of an api.Fault that bears one. The library's own text is walked.
  errors.As at a target of type **api.Fault: of nil, of a sentinel, of an api.Fault. The library's own text is walked.
  Arguments and package variables, opened to cells: slices of records, sentinels of errors.
-/
import Derived.Test.YtheidjagcafgnaaDoorDiskCopiesG3
import Derived.Test.YtheidjagcafgnaaDoorDiskCopiesG4
import Derived.Test.YtheidjagcafgnaaDoorDiskCopiesG1
import Derived.LaidEql
import Derived.Stop.Asserts
import Derived.RowKitTokens
import Derived.Deep.Fields
import Derived.Stop.LaidErr
import Derived.LaidSub
import Derived.ProofKit
import Derived.OpenShut
namespace Go.Proofs.YtheidjagcafgnaaDoor
open Go.RowKit
set_option maxRecDepth 100000
/-- the disk of a law: where it lies, and what lay there ahead of it -/
structure LD (w0 w : World) (S : Nat → Prop) (d n : Nat) (m : Dk.DM) (b : Nat) : Prop where
  ds : DS w S d n m b
  ext : Ext w0 w
  ge : ∀ k, S k → w0.heap.size ≤ k
theorem LD.after {w0 w w' : World} {S : Nat → Prop} {d n b c : Nat} {m m' : Dk.DM} (h : LD w0 w S d n m b) (ha : After S w w' d n m' c) : LD w0 w' (grow S w w') d n m' c :=
  ⟨ha.1, Below.trans h.ext (ha.2.below h.ext.size (fun k hk q => by have := h.ge k q; omega)), fun k q => by
    rcases q with q | q
    · exact h.ge k q
    · have := h.ext.size; omega⟩
theorem LD.step {w0 w w' : World} {S : Nat → Prop} {d n b : Nat} {m : Dk.DM} (h : LD w0 w S d n m b) (hE : Ext w w') : LD w0 w' S d n m b := ⟨h.ds.ext hE, h.ext.trans hE, h.ge⟩
/-- a store into a block that is not the disk's -/
theorem LD.far {w0 w : World} {S : Nat → Prop} {d n b g i : Nat} {m : Dk.DM} {u : Value} (h : LD w0 w S d n m b) (hg : ¬ S g) (hw : w0.heap.size ≤ g) : LD w0 (w.setCell ⟨g, i, none⟩ u) S d n m b :=
  ⟨h.ds.keeps (one_keeps w g i u) (fun _ q e => hg (e ▸ q)), Below.setCell h.ext hw _, h.ge⟩
theorem touch_no {N : Nat} {a : Ac} {tb : Nat → Bool} (h : ¬ (a.kind = kWrite ∧ 0 ≤ a.n ∧ a.n < (N : Int))) : ∀ k, k < N → Value.bool (touch a tb k) = .bool (tb k) := by
  intro k hk
  unfold touch
  rw [if_neg (fun e => h ⟨e.1, by have := e.2; omega, by have := e.2; omega⟩)]
theorem touch_yes {a : Ac} {tb : Nat → Bool} {p : Nat} (h : a.kind = kWrite) (hp : a.n = (p : Int)) (k : Nat) : Value.bool (touch a tb k) = if k = p then .bool true else .bool (tb k) := by
  unfold touch
  by_cases e : k = p
  · subst e; rw [if_pos ⟨h, hp⟩, if_pos rfl]
  · rw [if_neg (fun q => e (by have := q.2; omega)), if_neg e]
theorem grow_no {S : Nat → Prop} {w w' : World} {g : Nat} (h : ¬ S g) (hl : g < w.heap.size) : ¬ grow S w w' g := fun q => by
  rcases q with q | q
  · exact h q
  · omega
theorem Cv.lt0 {w : World} {B n : Nat} {f : Nat → Value} (h : Cv w B n f) (hn : 1 ≤ n) : B < w.heap.size := World.block_lt_of_cell? w _ (h 0 hn).1
theorem erV_form (E : Nat → Addr) (c : Nat) : erV E c = .nilIface ∨ ∃ k, erV E c = .iface 128 (.pointer (some (E k))) := by
  cases c with
  | zero => exact .inl rfl
  | succ k => exact .inr ⟨k, rfl⟩
set_option linter.unusedSimpArgs false in
set_option maxHeartbeats 8000000 in
theorem keeps_any (n : Int) (nl cl nm cm kn kc : Nat) (xl xm kx : Option Addr) (l mo : Nat → Ac) (kb : Nat → Bool) (w : World) (E : Nat → Addr) (hE : ErD w E) (hl : Acs w xl nl l) (hm : Acs w xm nm mo) (hk : Kp w kx kn kb) (hnl : nl ≤ maxLen) (hnm : nm ≤ maxLen) (hkm : kn ≤ maxLen) :
    Calls Tryd.prog 3 #[.int .i64 n, .slice xl nl cl, .slice xm nm cm, .slice kx kn kc] w fun e w' => e = .returned (.bool true) ∧ Ext w w' := by
  have HE := Lib.hid hE
  have HL := Lib.hid hl
  have HM := Lib.hid hm
  have HK := Lib.hid hk
  clear hE hl hm hk
  unfold maxLen at hkm
  go_enter Tryd.func3, Tryd.ntmps3
  go_wp2_with fail
  refine (fresh_any w E HE.out).mono ?_
  rintro e w1 ⟨rfl, hX⟩
  have X1 := Lib.hid hX
  clear hX
  go_wp2_with fail
  refine (few_any xl nl cl l w1 (HL.out.ext X1.out) hnl).mono ?_
  rintro e w9 ⟨⟨b1, rfl, hb1⟩, rfl⟩
  cases b1
  · go_wp2_with fail
    go_ret
    exact ⟨rfl, X1.out⟩
  have FL := Lib.hid (hb1 rfl)
  clear hb1
  go_wp2_with fail
  refine (few_any xm nm cm mo w9 (HM.out.ext X1.out) hnm).mono ?_
  rintro e w8 ⟨⟨b2, rfl, hb2⟩, rfl⟩
  cases b2
  · go_wp2_with fail
    go_ret
    exact ⟨rfl, X1.out⟩
  have FM := Lib.hid (hb2 rfl)
  clear hb2
  by_cases q1 : n < 1
  · have t1 : decide (n < 1) = true := decide_eq_true q1
    go_wp2_with fail
    go_ret
    exact ⟨rfl, X1.out⟩
  have t1 : decide (n < 1) = false := decide_eq_false q1
  by_cases q2 : 50 < n
  · have t2 : decide (50 < n) = true := decide_eq_true q2
    go_wp2_with fail
    go_ret
    exact ⟨rfl, X1.out⟩
  have t2 : decide (50 < n) = false := decide_eq_false q2
  by_cases q3 : 100 < kn
  · have t3 : (100 : Int) < (kn : Int) := by omega
    go_wp2_with fail
    go_ret
    exact ⟨rfl, X1.out⟩
  have t3 : ¬ (100 : Int) < (kn : Int) := by omega
  obtain ⟨N, rfl⟩ : ∃ N : Nat, n = N := ⟨n.toNat, by omega⟩
  have hN1 : 1 ≤ N ∧ N ≤ 50 := by omega
  have hk100 : kn ≤ 100 := by omega
  clear q1 q2 q3
  go_wp2_with fail
  refine (new_ok N w8 (by omega)).mono ?_
  rintro e w2 ⟨⟨d, rfl, hd⟩, hE⟩
  have D2 := Lib.hid (show LD w w2 _ d N Dk.new 0 from ⟨hd, X1.out.trans hE, fun k q => Nat.le_trans X1.out.size q.1⟩)
  clear hd hE t1 t2 t3 hnl hnm hkm
  go_wp2_with fail
  have hl60 : nl ≤ 60 := FL.out.1
  have hm60 : nm ≤ 60 := FM.out.1
  go_loopw [12] (fun cc wr => ∃ (i : Nat) (S : Nat → Prop) (m : Dk.DM), i ≤ nl ∧ cc = .int .i64 (i : Int) ∧ Hid (LD w wr S d N m i)) (fun cc _ => nl - (intOf cc).toNat)
  case atStart => exact ⟨0, _, _, by omega, rfl, D2⟩
  case round =>
    clear D2
    obtain ⟨i, S, m, hi, rfl, D⟩ := hrel
    by_cases hlt : i < nl
    · have ht : (i : Int) < (nl : Int) := by omega
      obtain ⟨a, rfl⟩ : ∃ a, xl = some a := by
        cases xl with
        | none => have := HL.out.1 rfl; omega
        | some a => exact ⟨a, rfl⟩
      obtain ⟨c0, c1, c2, c3, ok⟩ := (HL.out.ext D.out.ext).2 a rfl i hlt
      have HO := Lib.hid ok
      have wi : ∀ z, z = (i : Int) + 1 → IntKind.i64.wrap z = z := by rintro _ rfl; rw [IntKind.wrap_i64]; omega
      clear ok
      go_wp2_with fail
      refine (act_any d N i m (l i) S wr E (HE.out.ext D.out.ext) D.out.ds (by omega) HO.out.n (FL.out.2 i hlt).2 HO.out.kp).mono ?_
      rintro e w3 ⟨rfl, hA⟩
      have D3 := Lib.hid (D.out.after hA)
      clear hA c0 c1 c2 c3
      obtain ⟨v, hv⟩ : ∃ v, erV E (doA N (l i) m).2 = v := ⟨_, rfl⟩
      rw [hv]
      clear hv
      go_wp2_with fail
      go_roundw
      case rel => exact ⟨i + 1, _, _, by omega, by go_num, D3⟩
      case measure => simp [intOf]; omega
    · obtain rfl : i = nl := by omega
      by_cases h0 : m.left = 0
      · go_wp2_with fail
        refine (flush_power d N i m S wr E (HE.out.ext D.out.ext) D.out.ds h0).mono ?_
        rintro e w3 ⟨rfl, rfl⟩
        go_wp2_with fail
        go_ret
        exact ⟨rfl, D.out.ext⟩
      go_wp2_with fail
      refine (flush_ok d N i m S wr D.out.ds h0).mono ?_
      rintro e w3 ⟨rfl, hA⟩
      have D3 := Lib.hid ((D.out.after hA))
      clear hA D h0
      obtain ⟨S3, hS3⟩ : ∃ S3, grow S wr w3 = S3 := ⟨_, rfl⟩
      rw [hS3] at D3
      clear hS3
      have hmk1 := run_make_row' (P := Tryd.prog) 35 9 (.string ⟨#[]⟩) 16 Tryd.underlying35 strinf rfl .i64 .i64 N (by omega) (by omega)
      have hmk2 := run_make_row' (P := Tryd.prog) 23 4 (.bool false) 1 Tryd.underlying23 boolinf rfl .i64 .i64 N (by omega) (by omega)
      go_upto_region 15 with fail
      clear hmk1 hmk2
      have E1 := (Ext.refl w3).alloc (.cells (madeCells #[.string ⟨#[]⟩] N) 9)
      have E2 := (Ext.refl (w3.alloc (.cells (madeCells #[.string ⟨#[]⟩] N) 9))).alloc (.cells (madeCells #[.bool false] N) 4)
      have D4 := Lib.hid (D3.out.step (E1.trans E2))
      have R4 := Lib.hid (show Sr _ w3.heap.size N (fun k => if k < 0 then m.now k else ⟨#[]⟩) from (Cv.made w3 N (.string ⟨#[]⟩) 9).ext E2)
      have T4 := Lib.hid (Cv.made (w3.alloc (.cells (madeCells #[.string ⟨#[]⟩] N) 9)) N (.bool false) 4)
      rw [World.size_alloc] at T4
      have N4 := Lib.hid (show (¬ S3 w3.heap.size ∧ ¬ S3 (w3.heap.size + 1)) ∧ w.heap.size ≤ w3.heap.size from ⟨⟨fun q => by have := D3.out.ds.lt _ q; omega, fun q => by have := D3.out.ds.lt _ q; omega⟩, D3.out.ext.size⟩)
      refine wp_world (fun wz => Hid (LD w wz S3 d N (Dk.fl m) i) ∧ Hid (Sr wz w3.heap.size N (fun k => if k < 0 then m.now k else ⟨#[]⟩)) ∧ Hid (Cv wz (w3.heap.size + 1) N (fun _ => .bool false))) ⟨D4, R4, T4⟩ ?_
      obtain ⟨gw, hgw⟩ : ∃ g, w3.heap.size = g := ⟨_, rfl⟩
      rw [hgw] at N4 ⊢
      obtain ⟨gt, hgt⟩ : ∃ g, gw + 1 = g := ⟨_, rfl⟩
      rw [hgt] at N4 ⊢
      have hne : gw ≠ gt := by omega
      have hwgt : w.heap.size ≤ gt := by have := N4.out.2; omega
      have HNE := Lib.hid (And.intro hne hwgt)
      clear D4 R4 T4 D3 E1 E2 hgw hgt hne hwgt
      rintro w4 ⟨D4, R4, T4⟩
      go_wp2_with fail
      go_loopw [15] (fun cc wr => ∃ j : Nat, j ≤ N ∧ cc = .int .i64 (j : Int) ∧ Hid (LD w wr S3 d N (Dk.fl m) i) ∧ Hid (Sr wr gw N (fun k => if k < j then m.now k else ⟨#[]⟩)) ∧ Hid (Cv wr gt N (fun _ => .bool false))) (fun cc _ => N - (intOf cc).toNat)
      case atStart => exact ⟨0, by omega, rfl, D4, R4, T4⟩
      case round =>
        clear D4 R4 T4
        obtain ⟨j, hj, rfl, D4, R4, T4⟩ := hrel
        by_cases hjt : j < N
        · have ht : (j : Int) < (N : Int) := by omega
          have wi : ∀ z, z = (j : Int) + 1 → IntKind.i64.wrap z = z := by rintro _ rfl; rw [IntKind.wrap_i64]; omega
          go_wp2_with fail
          refine (read_any d N i _ (j : Int) S3 wr E (HE.out.ext D4.out.ext) D4.out.ds).mono ?_
          rintro e w5 ⟨h, hE⟩
          obtain rfl : e = .returned (.tuple #[.string (m.now j), .nilIface]) := by
            rcases h with ⟨h, _⟩ | ⟨k, h1, h2, rfl⟩
            · exfalso; omega
            · obtain rfl : j = k := by omega
              rfl
          have D5 := Lib.hid (D4.out.step hE)
          have R5 := Lib.hid (Cv.ext R4.out hE)
          have T5 := Lib.hid (T4.out.ext hE)
          clear h hE D4 R4 T4
          obtain ⟨c0, f0⟩ := R5.out j hjt
          have D6 := Lib.hid (D5.out.far (i := j) (u := .string (m.now j)) N4.out.1.1 N4.out.2)
          have R6 := Lib.hid (show Sr (w5.setCell ⟨gw, j, none⟩ (.string (m.now j))) gw N (fun k => if k < j + 1 then m.now k else ⟨#[]⟩) from Cv.put R5.out j (.string (m.now j)) _ hjt (fun k _ => by
            dsimp only
            by_cases e : k = j
            · subst e; rw [if_pos rfl, if_pos (by omega)]
            · rw [if_neg e]
              by_cases q : k < j
              · rw [if_pos q, if_pos (by omega)]
              · rw [if_neg q, if_neg (by omega)]))
          have T6 := Lib.hid (T5.out.keeps (one_keeps w5 gw j (.string (m.now j))) (fun e => HNE.out.1 e.symm))
          have b0 : (if j < j then m.now j else (⟨#[]⟩ : ByteArray)) = ⟨#[]⟩ := if_neg (by omega)
          simp only [b0] at c0
          clear D5 R5 T5 b0
          go_wp2_with fail
          go_roundw
          case rel => exact ⟨j + 1, by omega, by go_num, D6, R6, T6⟩
          case measure => simp [intOf]; omega
        · obtain rfl : j = N := by omega
          have K4 : Hid (KI j m.now (fun _ => false) (Dk.fl m)) := Lib.hid KI.start
          have R5 : Hid (Sr wr gw j m.now) := Lib.hid (Cv.congr R4.out (fun k hk => by dsimp only; rw [if_pos hk]))
          have N5 := Lib.hid N4.out.1
          clear R4 N4
          go_wp2_with fail
          go_loopw [16] (fun cc wr => ∃ (p : Nat) (S : Nat → Prop) (m2 : Dk.DM) (tb : Nat → Bool), p ≤ nm ∧ cc = .int .i64 (p : Int) ∧ Hid (LD w wr S d j m2 (i + p)) ∧ Hid (Sr wr gw j m.now) ∧ Hid (Cv wr gt j (fun k => .bool (tb k))) ∧ Hid (KI j m.now tb m2) ∧ Hid (¬ S gw ∧ ¬ S gt)) (fun cc _ => nm - (intOf cc).toNat)
          case atStart => exact ⟨0, _, _, _, by omega, rfl, D4, R5, T4, K4, N5⟩
          case round =>
            clear D4 R5 T4 K4 N5
            obtain ⟨p, S2, m2, tb, hp, rfl, D2, R2, T2, K2, N2⟩ := hrel
            by_cases hpt : p < nm
            · have ht : (p : Int) < (nm : Int) := by omega
              obtain ⟨a, rfl⟩ : ∃ a, xm = some a := by
                cases xm with
                | none => have := HM.out.1 rfl; omega
                | some a => exact ⟨a, rfl⟩
              obtain ⟨c0, c1, c2, c3, ok⟩ := (HM.out.ext D2.out.ext).2 a rfl p hpt
              have HO := Lib.hid ok
              have wi : ∀ z, z = (p : Int) + 1 → IntKind.i64.wrap z = z := by rintro _ rfl; rw [IntKind.wrap_i64]; omega
              have K7 := Lib.hid (K2.out.act (mo p))
              clear ok
              by_cases hkw : (mo p).kind = kWrite
              · have t5 : ((mo p).kind.toList == [119, 114, 105, 116, 101]) = true := by rw [hkw]; exact kyes _
                have HKW := Lib.hid hkw
                clear hkw
                by_cases h5 : 0 ≤ (mo p).n
                · by_cases h6 : (mo p).n < (j : Int)
                  · obtain ⟨q, hq⟩ : ∃ q : Nat, (mo p).n = q := ⟨(mo p).n.toNat, by omega⟩
                    have hqj : q < j := by omega
                    have hqI : ((q : Nat) : Int) < (j : Int) := by omega
                    have HQ := Lib.hid hq
                    rw [hq] at c1
                    clear h5 h6 hq
                    obtain ⟨s0, f0⟩ := T2.out q hqj
                    have c0' := c0
                    have D6 := Lib.hid (D2.out.far (i := q) (u := .bool true) N2.out.2 HNE.out.2)
                    have R6 := Lib.hid (R2.out.keeps (one_keeps wr gt q (.bool true)) HNE.out.1)
                    have T6 : Hid (Cv (wr.setCell ⟨gt, q, none⟩ (.bool true)) gt j (fun k => .bool (touch (mo p) tb k))) := Lib.hid (Cv.put T2.out q (.bool true) _ hqj (fun k _ => touch_yes HKW.out HQ.out k))
                    go_upto_region 26 with fail
                    clear c0 c1 c2 c3 s0 f0 c0' t5 D2 R2 T2
                    refine wp_world (fun wz => Hid (LD w wz S2 d j m2 (i + p)) ∧ Hid (Sr wz gw j m.now) ∧ Hid (Cv wz gt j (fun k => .bool (touch (mo p) tb k)))) ⟨D6, R6, T6⟩ ?_
                    clear D6 R6 T6
                    rintro w6 ⟨D2, R2, TT⟩
                    obtain ⟨c0, c1, c2, c3, ok6⟩ := (HM.out.ext D2.out.ext).2 a rfl p hpt
                    have HO := Lib.hid ok6
                    clear ok6
                    go_wp2_with fail
                    refine (act_any d j (i + p) m2 (mo p) S2 w6 E (HE.out.ext D2.out.ext) D2.out.ds (by omega) HO.out.n (FM.out.2 p hpt).2 HO.out.kp).mono ?_
                    rintro e w7 ⟨rfl, hA⟩
                    have D7 := Lib.hid (D2.out.after hA)
                    have R7 := Lib.hid (R2.out.keeps hA.2 N2.out.1)
                    have T7 := Lib.hid (TT.out.keeps hA.2 N2.out.2)
                    have N7 := Lib.hid (And.intro (grow_no (w' := w7) N2.out.1 (Cv.lt0 R2.out hN1.1)) (grow_no (w' := w7) N2.out.2 (Cv.lt0 TT.out hN1.1)))
                    clear hA
                    obtain ⟨v, hv⟩ : ∃ v, erV E (doA j (mo p) m2).2 = v := ⟨_, rfl⟩
                    rw [hv]
                    clear hv
                    go_wp2_with fail
                    go_roundw
                    case rel => exact ⟨p + 1, _, _, _, by omega, by go_num, D7, R7, T7, K7, N7⟩
                    case measure => simp [intOf]; omega
                  · have TT : Hid (Cv wr gt j (fun k => .bool (touch (mo p) tb k))) := Lib.hid (Cv.congr T2.out (touch_no (fun e => h6 e.2.2)))
                    clear T2
                    go_wp2_with fail
                    refine (act_any d j (i + p) m2 (mo p) S2 wr E (HE.out.ext D2.out.ext) D2.out.ds (by omega) HO.out.n (FM.out.2 p hpt).2 HO.out.kp).mono ?_
                    rintro e w7 ⟨rfl, hA⟩
                    have D7 := Lib.hid (D2.out.after hA)
                    have R7 := Lib.hid (R2.out.keeps hA.2 N2.out.1)
                    have T7 := Lib.hid (TT.out.keeps hA.2 N2.out.2)
                    have N7 := Lib.hid (And.intro (grow_no (w' := w7) N2.out.1 (Cv.lt0 R2.out hN1.1)) (grow_no (w' := w7) N2.out.2 (Cv.lt0 TT.out hN1.1)))
                    clear hA
                    obtain ⟨v, hv⟩ : ∃ v, erV E (doA j (mo p) m2).2 = v := ⟨_, rfl⟩
                    rw [hv]
                    clear hv
                    go_wp2_with fail
                    go_roundw
                    case rel => exact ⟨p + 1, _, _, _, by omega, by go_num, D7, R7, T7, K7, N7⟩
                    case measure => simp [intOf]; omega
                · have TT : Hid (Cv wr gt j (fun k => .bool (touch (mo p) tb k))) := Lib.hid (Cv.congr T2.out (touch_no (fun e => h5 e.2.1)))
                  clear T2
                  go_wp2_with fail
                  refine (act_any d j (i + p) m2 (mo p) S2 wr E (HE.out.ext D2.out.ext) D2.out.ds (by omega) HO.out.n (FM.out.2 p hpt).2 HO.out.kp).mono ?_
                  rintro e w7 ⟨rfl, hA⟩
                  have D7 := Lib.hid (D2.out.after hA)
                  have R7 := Lib.hid (R2.out.keeps hA.2 N2.out.1)
                  have T7 := Lib.hid (TT.out.keeps hA.2 N2.out.2)
                  have N7 := Lib.hid (And.intro (grow_no (w' := w7) N2.out.1 (Cv.lt0 R2.out hN1.1)) (grow_no (w' := w7) N2.out.2 (Cv.lt0 TT.out hN1.1)))
                  clear hA
                  obtain ⟨v, hv⟩ : ∃ v, erV E (doA j (mo p) m2).2 = v := ⟨_, rfl⟩
                  rw [hv]
                  clear hv
                  go_wp2_with fail
                  go_roundw
                  case rel => exact ⟨p + 1, _, _, _, by omega, by go_num, D7, R7, T7, K7, N7⟩
                  case measure => simp [intOf]; omega
              · have t5 : ((mo p).kind.toList == [119, 114, 105, 116, 101]) = false := kno hkw
                have TT : Hid (Cv wr gt j (fun k => .bool (touch (mo p) tb k))) := Lib.hid (Cv.congr T2.out (touch_no (fun e => hkw e.1)))
                clear T2 hkw
                go_wp2_with fail
                refine (act_any d j (i + p) m2 (mo p) S2 wr E (HE.out.ext D2.out.ext) D2.out.ds (by omega) HO.out.n (FM.out.2 p hpt).2 HO.out.kp).mono ?_
                rintro e w7 ⟨rfl, hA⟩
                have D7 := Lib.hid (D2.out.after hA)
                have R7 := Lib.hid (R2.out.keeps hA.2 N2.out.1)
                have T7 := Lib.hid (TT.out.keeps hA.2 N2.out.2)
                have N7 := Lib.hid (And.intro (grow_no (w' := w7) N2.out.1 (Cv.lt0 R2.out hN1.1)) (grow_no (w' := w7) N2.out.2 (Cv.lt0 TT.out hN1.1)))
                clear hA
                obtain ⟨v, hv⟩ : ∃ v, erV E (doA j (mo p) m2).2 = v := ⟨_, rfl⟩
                rw [hv]
                clear hv
                go_wp2_with fail
                go_roundw
                case rel => exact ⟨p + 1, _, _, _, by omega, by go_num, D7, R7, T7, K7, N7⟩
                case measure => simp [intOf]; omega
            · obtain rfl : p = nm := by omega
              have hb4 : i + p ≤ 4000 := by omega
              go_upto_region 28 with fail
              go_cut [] (fun wx => ∃ (S : Nat → Prop) (m3 : Dk.DM), Hid (LD w wx S d j m3 (i + p)) ∧ Hid (Sr wx gw j m.now) ∧ Hid (Cv wx gt j (fun k => .bool (tb k))) ∧ Hid (KI j m.now tb m3) ∧ Hid (m3.ws = []))
              case first =>
                obtain ⟨i0, hi0, hz0, hz1, hz2⟩ := info_parts boolinf
                cases kx with
                | none =>
                  obtain rfl : kn = 0 := HK.out.1 rfl
                  go_wp2_with (at_builtin; refine wpList_append_own_none rfl _ _ 23 rfl 0 4 i0 1 Tryd.underlying23 hi0 (.slice none 0 0) 0 [] rfl (World.ownsRow_nil _ _ _ _) rfl ?_)
                  refine (crash_any d j (i + p) m2 S2 wr D2.out.ds (by omega) none 0 0 kb ⟨fun _ => rfl, fun a ha => by cases ha⟩ (by omega)).mono ?_
                  rintro e w3 ⟨rfl, hA⟩
                  have D7 := Lib.hid (D2.out.after hA)
                  have R7 := Lib.hid (R2.out.keeps hA.2 N2.out.1)
                  have T7 := Lib.hid (T2.out.keeps hA.2 N2.out.2)
                  have K7 := Lib.hid (K2.out.cr (kf 0 kb))
                  clear hA
                  go_wp2_with fail
                  go_meet
                  exact ⟨_, _, D7, R7, T7, K7, Lib.hid rfl⟩
                | some ka =>
                  go_wp2_with (at_builtin; refine wpList_append_own_at _ rfl _ _ 23 rfl wr.heap.size 4 i0 (.bool false) 1 1 Tryd.underlying23 hi0 hz0 hz1 hz2 rfl (by decide) (.slice none 0 0) 0 [] rfl (World.ownsRow_nil _ _ _ _) ka kn kc (boolsV kn kb) rfl ?c0 ?c1 ?c2 ?c3 ?c4 ?c5 ?_)
                  case c0 => rw [boolsV_length]; omega
                  case c1 =>
                    intro q u hq
                    have hqn : q < kn := by
                      have := (List.getElem?_eq_some_iff.1 hq).1
                      rwa [boolsV_length] at this
                    rw [boolsV_get hqn] at hq
                    injection hq with hq
                    subst hq
                    have h1 := HK.out.2 ka rfl q hqn
                    exact (D2.out.ext.keeps (S := fun _ => False) |>.cell (World.block_lt_of_cell? w _ h1) id).trans h1
                  case c2 => intro u hu; obtain ⟨x, _, rfl⟩ := List.mem_map.1 hu; rfl
                  case c3 => unfold maxLen; omega
                  case c4 => omega
                  case c5 => exact Nat.le_refl _
                  intro v2 w2 hown hgrow hnil hat
                  have ho : w2.ownsRow wr.heap.size 4 1 v2 kn (boolsV kn kb) := by simpa using hown
                  have hE : Ext wr w2 := (Below.refl _ wr).grown hgrow (Nat.le_refl _) (by intro k hk; simp [Value.ownBlock] at hk)
                  obtain ⟨vx, vc, rfl, _, hv0⟩ := own_form ho
                  have HKR : Hid (KR w2 S2 vx kn kb) := Lib.hid ⟨hv0, fun a ha q hq => by
                    subst ha
                    rcases ho.2 with ⟨hv, _⟩ | ⟨g, cap, cur, hv, hg, _⟩
                    · cases hv
                    · injection hv with hv
                      injection hv with hv
                      subst hv
                      rw [add_plain]
                      exact ⟨by rw [ho.cellAt q (by omega), boolsV_get hq], fun z => by have q1 : g < wr.heap.size := D2.out.ds.lt _ z; omega⟩⟩
                  have D3 := Lib.hid (D2.out.step hE)
                  have R3 := Lib.hid (Cv.ext R2.out hE)
                  have T3 := Lib.hid (T2.out.ext hE)
                  clear ho hown hgrow hnil hat hE hv0 D2 R2 T2
                  go_wp2_with fail
                  refine (crash_any d j (i + p) m2 S2 w2 D3.out.ds (by omega) vx kn vc kb HKR.out (by omega)).mono ?_
                  rintro e w3 ⟨rfl, hA⟩
                  have D7 := Lib.hid (D3.out.after hA)
                  have R7 := Lib.hid (Cv.keeps R3.out hA.2 N2.out.1)
                  have T7 := Lib.hid (T3.out.keeps hA.2 N2.out.2)
                  have K7 := Lib.hid (K2.out.cr (kf kn kb))
                  clear hA
                  go_wp2_with fail
                  go_meet
                  exact ⟨_, _, D7, R7, T7, K7, Lib.hid rfl⟩
              case rest =>
                clear D2 R2 T2 K2 N2
                obtain ⟨S3', m3, D2, R2, T2, K2, W2⟩ := hcut
                go_wp2_with fail
                go_loopw [18] (fun cc wr => ∃ q : Nat, q ≤ j ∧ cc = .int .i64 (q : Int) ∧ Hid (LD w wr S3' d j m3 (i + p)) ∧ Hid (Sr wr gw j m.now) ∧ Hid (Cv wr gt j (fun k => .bool (tb k)))) (fun cc _ => j - (intOf cc).toNat)
                case atStart => exact ⟨0, by omega, rfl, D2, R2, T2⟩
                case round =>
                  clear D2 R2 T2
                  obtain ⟨q, hq, rfl, D2, R2, T2⟩ := hrel
                  by_cases hqt : q < j
                  · have ht : (q : Int) < (j : Int) := by omega
                    have wi : ∀ z, z = (q : Int) + 1 → IntKind.i64.wrap z = z := by rintro _ rfl; rw [IntKind.wrap_i64]; omega
                    go_wp2_with fail
                    refine (read_any d j (i + p) m3 (q : Int) S3' wr E (HE.out.ext D2.out.ext) D2.out.ds).mono ?_
                    rintro e w5 ⟨h, hE⟩
                    obtain rfl : e = .returned (.tuple #[.string (m3.now q), .nilIface]) := by
                      rcases h with ⟨h, _⟩ | ⟨k, h1, h2, rfl⟩
                      · exfalso; omega
                      · obtain rfl : q = k := by omega
                        rfl
                    have D5 := Lib.hid (D2.out.step hE)
                    have R5 := Lib.hid (Cv.ext R2.out hE)
                    have T5 := Lib.hid (T2.out.ext hE)
                    clear h hE D2 R2 T2
                    obtain ⟨t0, _⟩ := T5.out q hqt
                    obtain ⟨r0, _⟩ := R5.out q hqt
                    cases htb : tb q
                    · have e1 : m3.now q = m.now q := (K2.out q hqt htb).2.1
                      rw [e1]
                      obtain ⟨X, hX⟩ : ∃ X, m.now q = X := ⟨_, rfl⟩
                      have e2 : (X.toList == X.toList) = true := beq_self_eq_true _
                      simp only [htb] at t0
                      simp only [hX] at r0
                      rw [hX]
                      clear hX e1 htb
                      go_wp2_with fail
                      go_roundw
                      case rel => exact ⟨q + 1, by omega, by go_num, D5, R5, T5⟩
                      case measure => simp [intOf]; omega
                    · simp only [htb] at t0
                      clear htb
                      go_wp2_with fail
                      go_roundw
                      case rel => exact ⟨q + 1, by omega, by go_num, D5, R5, T5⟩
                      case measure => simp [intOf]; omega
                  · obtain rfl : q = j := by omega
                    go_wp2_with fail
                    refine (waiting_any d q (i + p) m3 S3' wr D2.out.ds).mono ?_
                    rintro e w5 ⟨rfl, rfl⟩
                    rw [show (m3.ws.length : Int) = 0 by rw [W2.out]; rfl]
                    go_wp2_with fail
                    go_ret
                    exact ⟨rfl, D2.out.ext⟩
end Go.Proofs.YtheidjagcafgnaaDoor
namespace Go.Proofs.YtheidjagcafgnaaDoor
open Go.RowKit Go.Extern.Stop Go.Stop Go.Extern
set_option maxRecDepth 100000
@[irreducible] noncomputable def GN : Nat := Tryd.prog.globals.size
noncomputable abbrev hdl (t : Nat) : Value := .pointer (some ⟨GN, t, none⟩)
theorem typeOfE (v : Value) (w : World) : (Extern.ReflectliteType.typeOf #[.iface 128 v]).run Tryd.prog w = .ok (.iface 115 (.agg #[hdl 128])) w := by kernel_rfl
theorem compE (w : World) : ((Extern.ReflectliteType.method fun t => do Extern.Rtype.noPackHeld "Comparable" t; pure (.bool (← typeInfo t).comparable)) #[.agg #[hdl 128]]).run Tryd.prog w = .ok (.bool true) w := by kernel_rfl
theorem call_typeOfE (v : Value) (w : World) : (callFunc 50 #[.iface 128 v]).run Tryd.prog w = .ok (.value (.iface 115 (.agg #[hdl 128]))) w := by
  rw [@run_callFunc_extern Tryd.prog 50 _ Extern.ReflectliteType.typeOf Tryd.func50 (by kernel_rfl) (by kernel_rfl) (by kernel_rfl) (by kernel_rfl), typeOfE]; rfl
theorem call_compE (w : World) : (callFunc 81 #[.agg #[hdl 128]]).run Tryd.prog w = .ok (.value (.bool true)) w := by
  rw [@run_callFunc_extern Tryd.prog 81 _ (Extern.ReflectliteType.method fun t => do Extern.Rtype.noPackHeld "Comparable" t; pure (.bool (← typeInfo t).comparable)) Tryd.func81 (by kernel_rfl) (by kernel_rfl) (by kernel_rfl) (by kernel_rfl), compE]; rfl
theorem isMethodComparable (n : Nat) (v : Value) (w : World) : (Go.method (n + 1) 115 v "Comparable").run Tryd.prog w = .ok (81, v) w := by kernel_rfl
theorem isComp : (Tryd.prog.info? 128).map (·.comparable) = some true := by kernel_rfl
theorem isSize : (Tryd.prog.info? 146).map (·.size) = some 1 := by kernel_rfl
theorem noIsE (v : Value) (xT : TypeId) (w : World) : (Instr.typeAssert (.iface 128 v) xT 125 true).run Tryd.prog w = .ok (.tuple #[.nilIface, .bool false]) w := run_typeAssert_lacksB Tryd.underlying125 (by kernel_rfl) (by kernel_rfl) v xT w
theorem noUnwrapE (v : Value) (xT : TypeId) (w : World) : (Instr.typeAssert (.iface 128 v) xT 122 true).run Tryd.prog w = .ok (.tuple #[.nilIface, .bool false]) w := run_typeAssert_lacksB Tryd.underlying122 (by kernel_rfl) (by kernel_rfl) v xT w
theorem noUnwrapsE (v : Value) (xT : TypeId) (w : World) : (Instr.typeAssert (.iface 128 v) xT 123 true).run Tryd.prog w = .ok (.tuple #[.nilIface, .bool false]) w := run_typeAssert_lacksB Tryd.underlying123 (by kernel_rfl) (by kernel_rfl) v xT w
theorem noIsF (v : Value) (xT : TypeId) (w : World) : (Instr.typeAssert (.iface 84 v) xT 125 true).run Tryd.prog w = .ok (.tuple #[.nilIface, .bool false]) w := run_typeAssert_lacksB Tryd.underlying125 (by kernel_rfl) (by kernel_rfl) v xT w
theorem hasUnwrapF (v : Value) (xT : TypeId) (w : World) : (Instr.typeAssert (.iface 84 v) xT 122 true).run Tryd.prog w = .ok (.tuple #[.iface 84 v, .bool true]) w := run_typeAssert_hasB Tryd.underlying122 (by kernel_rfl) v xT w
theorem methodUnwrap (n : Nat) (v : Value) (w : World) : (Go.method (n + 1) 84 v "Unwrap").run Tryd.prog w = .ok (75, v) w := by kernel_rfl
theorem is_same (a : Addr) (w : World) :
    Calls Tryd.prog 39 #[.iface 128 (.pointer (some a)), .iface 128 (.pointer (some a))] w fun e w' => e = .returned (.bool true) ∧ w = w' := by
  obtain ⟨i, hi, hcmp⟩ := Option.map_eq_some_iff.1 isComp
  obtain ⟨j, hj, hjs⟩ := Option.map_eq_some_iff.1 isSize
  have h8 := call_typeOfE
  have h32 := call_compE
  have mR := isMethodComparable
  have heq := run_eql_iface_ptr_same (P := Tryd.prog) w a Tryd.underlying28 Tryd.underlying128 hi hcmp hj
  go_enter Tryd.func39, Tryd.ntmps39
  go_wp2
  refine wp_loop_rounds 1 ?_
  rw [rounds_succ]
  go_wp2
  go_ret
  exact ⟨rfl, rfl⟩
theorem is_other (a b : Addr) (ca cb : Array Value) (ta tb : TypeId) (w : World) (hne : a ≠ b) (ha : w.heap[a.block]? = some (.cells ca ta (0, 0))) (hb : w.heap[b.block]? = some (.cells cb tb (0, 0))) :
    Calls Tryd.prog 39 #[.iface 128 (.pointer (some a)), .iface 128 (.pointer (some b))] w fun e w' => e = .returned (.bool false) ∧ w = w' := by
  obtain ⟨i, hi, hcmp⟩ := Option.map_eq_some_iff.1 isComp
  obtain ⟨j, hj, hjs⟩ := Option.map_eq_some_iff.1 isSize
  have h8 := call_typeOfE
  have h32 := call_compE
  have mR := isMethodComparable
  have nE := noIsE
  have uE := noUnwrapE
  have vE := noUnwrapsE
  have heq := run_eql_iface_ptr_other (P := Tryd.prog) w Tryd.underlying28 Tryd.underlying128 hi hcmp hj (by rw [hjs]; decide) hne ha hb
  go_enter Tryd.func39, Tryd.ntmps39
  go_wp2
  refine wp_loop_rounds 1 ?_
  rw [rounds_succ]
  go_wp2
  go_ret
  exact ⟨rfl, rfl⟩
theorem is_fault_same (F : Nat) (b : Addr) (w : World) (h1 : w.cell? ⟨F, 1, none⟩ = some (.iface 128 (.pointer (some b)))) :
    Calls Tryd.prog 39 #[.iface 84 (.pointer (some ⟨F, 0, none⟩)), .iface 128 (.pointer (some b))] w fun e w' => e = .returned (.bool true) ∧ w = w' := by
  obtain ⟨i, hi, hcmp⟩ := Option.map_eq_some_iff.1 isComp
  obtain ⟨j, hj, hjs⟩ := Option.map_eq_some_iff.1 isSize
  have h8 := call_typeOfE
  have h32 := call_compE
  have mR := isMethodComparable
  have nE := noIsE
  have uE := noUnwrapE
  have vE := noUnwrapsE
  have nW := noIsF
  have uW := hasUnwrapF
  have mU := methodUnwrap
  have heq := run_eql_iface_ptr_same (P := Tryd.prog) w b Tryd.underlying28 Tryd.underlying128 hi hcmp hj
  have hty := run_eql_iface_types (P := Tryd.prog) 84 128 (.pointer (some ⟨F, 0, none⟩)) (.pointer (some b)) Tryd.underlying28 (by decide) w
  go_enter Tryd.func39, Tryd.ntmps39
  go_wp2
  refine wp_loop_rounds 2 ?_
  rw [rounds_succ]
  go_wp2
  rw [rounds_succ]
  go_wp2
  go_ret
  exact ⟨rfl, rfl⟩
theorem is_fault_other (F : Nat) (b a : Addr) (ca cb : Array Value) (ta tb : TypeId) (w : World) (h1 : w.cell? ⟨F, 1, none⟩ = some (.iface 128 (.pointer (some a)))) (hne : a ≠ b) (ha : w.heap[a.block]? = some (.cells ca ta (0, 0))) (hb : w.heap[b.block]? = some (.cells cb tb (0, 0))) :
    Calls Tryd.prog 39 #[.iface 84 (.pointer (some ⟨F, 0, none⟩)), .iface 128 (.pointer (some b))] w fun e w' => e = .returned (.bool false) ∧ w = w' := by
  obtain ⟨i, hi, hcmp⟩ := Option.map_eq_some_iff.1 isComp
  obtain ⟨j, hj, hjs⟩ := Option.map_eq_some_iff.1 isSize
  have h8 := call_typeOfE
  have h32 := call_compE
  have mR := isMethodComparable
  have nE := noIsE
  have uE := noUnwrapE
  have vE := noUnwrapsE
  have nW := noIsF
  have uW := hasUnwrapF
  have mU := methodUnwrap
  have heq := run_eql_iface_ptr_other (P := Tryd.prog) w Tryd.underlying28 Tryd.underlying128 hi hcmp hj (by rw [hjs]; decide) hne ha hb
  have hty := run_eql_iface_types (P := Tryd.prog) 84 128 (.pointer (some ⟨F, 0, none⟩)) (.pointer (some b)) Tryd.underlying28 (by decide) w
  go_enter Tryd.func39, Tryd.ntmps39
  go_wp2
  refine wp_loop_rounds 2 ?_
  rw [rounds_succ]
  go_wp2
  rw [rounds_succ]
  go_wp2
  go_ret
  exact ⟨rfl, rfl⟩
end Go.Proofs.YtheidjagcafgnaaDoor
namespace Go.Proofs.YtheidjagcafgnaaDoor
open Go.RowKit Go.Extern.Stop Go.Stop Go.Extern
set_option maxRecDepth 100000
theorem as_nil (t : Value) (w : World) :
    Calls Tryd.prog 38 #[.nilIface, t] w fun e w' => e = .returned (.bool false) ∧ w = w' := by
  go_enter Tryd.func38, Tryd.ntmps38
  go_wp2
  go_ret
  exact ⟨rfl, rfl⟩
theorem valueOfPP (t : Addr) (w : World) : (ReflectliteValue.unpack (.iface 86 (.pointer (some t)))).run Tryd.prog w
    = .ok (.agg #[hdl 86, .pointer (some ⟨w.heap.size, 0, none⟩), .int .u64 150]) (w.alloc (.cells #[.pointer (some t)] 86)) := by kernel_rfl
theorem typePP (a : Addr) (w : World) : (ReflectliteValue.methodAny (ReflectliteValue.valueError "reflectlite.Value.Type" 0) (fun t _ _ _ => ReflectliteType.toType t) #[.agg #[hdl 86, .pointer (some a), .int .u64 150]]).run Tryd.prog w
    = .ok (.iface 115 (.agg #[hdl 86])) w := by kernel_rfl
theorem methodKind (n : Nat) (h : Value) (w : World) : (Go.method (n + 1) 115 (.agg #[h]) "Kind").run Tryd.prog w = .ok (70, h) w := by kernel_rfl
theorem methodElem (n : Nat) (h : Value) (w : World) : (Go.method (n + 1) 115 (.agg #[h]) "Elem").run Tryd.prog w = .ok (82, .agg #[h]) w := by kernel_rfl
theorem methodImplements (n : Nat) (h : Value) (w : World) : (Go.method (n + 1) 115 (.agg #[h]) "Implements").run Tryd.prog w = .ok (83, .agg #[h]) w := by kernel_rfl
theorem methodAssignableTo (n : Nat) (h : Value) (w : World) : (Go.method (n + 1) 115 (.agg #[h]) "AssignableTo").run Tryd.prog w = .ok (80, .agg #[h]) w := by kernel_rfl
theorem kindPP (w : World) : ((ReflectliteType.abiMethod fun t => do pure (.int .u8 (← Rtype.kind t))) #[hdl 86]).run Tryd.prog w = .ok (.int .u8 22) w := by kernel_rfl
theorem kindP (w : World) : ((ReflectliteType.abiMethod fun t => do pure (.int .u8 (← Rtype.kind t))) #[hdl 84]).run Tryd.prog w = .ok (.int .u8 22) w := by kernel_rfl
theorem elemPP (w : World) : (ReflectliteType.method ReflectliteType.elem #[.agg #[hdl 86]]).run Tryd.prog w = .ok (.iface 115 (.agg #[hdl 84])) w := by kernel_rfl
theorem implP (w : World) : (ReflectliteType.relation "Implements" ReflectliteType.implements_ #[.agg #[hdl 84], .iface 115 (.agg #[hdl 28])]).run Tryd.prog w = .ok (.bool true) w := by kernel_rfl
theorem typeOfP (v : Value) (w : World) : (ReflectliteType.typeOf #[.iface 84 v]).run Tryd.prog w = .ok (.iface 115 (.agg #[hdl 84])) w := by kernel_rfl
theorem assignP (w : World) : (ReflectliteType.relation "AssignableTo" ReflectliteType.assignableTo #[.agg #[hdl 84], .iface 115 (.agg #[hdl 84])]).run Tryd.prog w = .ok (.bool true) w := by kernel_rfl
theorem assignE (w : World) : (ReflectliteType.relation "AssignableTo" ReflectliteType.assignableTo #[.agg #[hdl 128], .iface 115 (.agg #[hdl 84])]).run Tryd.prog w = .ok (.bool false) w := by kernel_rfl
theorem valueOfP (e : Addr) (w : World) : (ReflectliteValue.unpack (.iface 84 (.pointer (some e)))).run Tryd.prog w
    = .ok (.agg #[hdl 84, .pointer (some ⟨w.heap.size, 0, none⟩), .int .u64 150]) (w.alloc (.cells #[.pointer (some e)] 84)) := by kernel_rfl
theorem rlm (z : Sem Value) (f : TypeId → Addr → Nat → Nat → Sem Value) (v : Value) :
    ReflectliteValue.method z f #[v] = (do match ← ReflectliteValue.parts v with | none => z | some (t, a, fl) => f t a fl (fl % 32)) := rfl
theorem partsPP (a : Addr) (w : World) : (ReflectliteValue.parts (.agg #[hdl 86, .pointer (some a), .int .u64 150])).run Tryd.prog w = .ok (some (86, a, 150)) w := by kernel_rfl
theorem isNilPP (a p : Addr) (W : World) (ha : W.cell? a = some (.pointer (some p))) :
    (ReflectliteValue.method (ReflectliteValue.valueError "reflectlite.Value.IsNil" 0) ReflectliteValue.isNil #[.agg #[hdl 86, .pointer (some a), .int .u64 150]]).run Tryd.prog W = .ok (.bool false) W := by
  rw [rlm]
  simp only [Sem.run_bind, partsPP, Result.andThen]
  simp [ReflectliteValue.isNil, loadVar, isAgg, underlying, Tryd.underlying86, ha, Result.andThen]
theorem elemOfPP (w : World) : (Rtype.elem? 86).run Tryd.prog w = .ok (some 84) w := by kernel_rfl
theorem mkP (p : Addr) (w : World) : (ReflectliteValue.mk 84 p ReflectliteValue.flagAddr).run Tryd.prog w = .ok (.agg #[hdl 84, .pointer (some p), .int .u64 406]) w := by kernel_rfl
theorem elemVPP (a p : Addr) (W : World) (ha : W.cell? a = some (.pointer (some p))) :
    (ReflectliteValue.method (ReflectliteValue.valueError "reflectlite.Value.Elem" 0) ReflectliteValue.elem #[.agg #[hdl 86, .pointer (some a), .int .u64 150]]).run Tryd.prog W
      = .ok (.agg #[hdl 84, .pointer (some p), .int .u64 406]) W := by
  rw [rlm]
  simp only [Sem.run_bind, partsPP, Result.andThen]
  simp [ReflectliteValue.elem, loadVar, isAgg, underlying, Tryd.underlying86, ha, Result.andThen, elemOfPP, mkP]
theorem rls (v x : Value) : ReflectliteValue.set #[v, x] = (do
    let (some (dst, a, fl), some (src, b, _)) := (← ReflectliteValue.parts v, ← ReflectliteValue.parts x)
      | unsupported (.noEntry "extern/(internal/reflectlite.Value).Set.zeroValue")
    if fl / ReflectliteValue.flagAddr % 2 == 0 then unsupported (.noEntry "extern/(internal/reflectlite.Value).Set.unaddressable")
    let val ← loadVar src b
    if ← Rtype.directlyAssignable dst src then storeVar dst a val
    else if ← Rtype.implements dst src then
      if (← Rtype.kind src) == 20 then
        match val with
        | .nilIface => unsupported (.noEntry "extern/reflectlite: a nil value of one interface type handed on as a value of another")
        | _ => storeVar dst a val
      else storeVar dst a (.iface src val)
    else panicString ("reflectlite.Set: value of type " ++ (← Rtype.spelt src) ++ " is not assignable to type " ++ (← Rtype.spelt dst))
    pure (.tuple #[])) := rfl
theorem partsPa (a : Addr) (w : World) : (ReflectliteValue.parts (.agg #[hdl 84, .pointer (some a), .int .u64 406])).run Tryd.prog w = .ok (some (84, a, 406)) w := by kernel_rfl
theorem partsP (a : Addr) (w : World) : (ReflectliteValue.parts (.agg #[hdl 84, .pointer (some a), .int .u64 150])).run Tryd.prog w = .ok (some (84, a, 150)) w := by kernel_rfl
theorem directP (w : World) : (Rtype.directlyAssignable 84 84).run Tryd.prog w = .ok true w := by kernel_rfl
theorem setP (ta b e : Addr) (old : Value) (W : World) (hb : W.cell? b = some (.pointer (some e))) (ht : W.cell? ta = some old) (hf : W.frozen? ta = false) :
    (ReflectliteValue.set #[.agg #[hdl 84, .pointer (some ta), .int .u64 406], .agg #[hdl 84, .pointer (some b), .int .u64 150]]).run Tryd.prog W
      = .ok (.tuple #[]) (W.setCell ta (.pointer (some e))) := by
  rw [rls]
  simp only [Sem.run_bind, partsPa, partsP, Result.andThen]
  simp [ReflectliteValue.flagAddr, loadVar, isAgg, underlying, Tryd.underlying84, hb, Result.andThen, directP, storeVar, Value.cells, storeCells, Addr.add]
  rw [run_store Tryd.prog W ta _ _ (by rfl)]
  simp [ht, hf]
theorem noAsE (v : Value) (xT : TypeId) (w : World) : (Instr.typeAssert (.iface 128 v) xT 119 true).run Tryd.prog w = .ok (.tuple #[.nilIface, .bool false]) w := run_typeAssert_lacksB Tryd.underlying119 (by kernel_rfl) (by kernel_rfl) v xT w
theorem call_valueOf (x : Value) (v : Value) (w w' : World) (h : (ReflectliteValue.unpack x).run Tryd.prog w = .ok v w') : (callFunc 46 #[x]).run Tryd.prog w = .ok (.value v) w' := by
  rw [@run_callFunc_extern Tryd.prog 46 _ (fun args => ReflectliteValue.unpack (args.getD 0 (.tuple #[]))) Tryd.func46 (by kernel_rfl) (by kernel_rfl) (by kernel_rfl) (by kernel_rfl)]
  show ((ReflectliteValue.unpack x).run Tryd.prog w).andThen _ = _
  rw [h]; rfl
theorem call_type (x : Value) (v : Value) (w w' : World) (h : (ReflectliteValue.methodAny (ReflectliteValue.valueError "reflectlite.Value.Type" 0) (fun t _ _ _ => ReflectliteType.toType t) #[x]).run Tryd.prog w = .ok v w') : (callFunc 47 #[x]).run Tryd.prog w = .ok (.value v) w' := by
  rw [@run_callFunc_extern Tryd.prog 47 _ (ReflectliteValue.methodAny (ReflectliteValue.valueError "reflectlite.Value.Type" 0) (fun t _ _ _ => ReflectliteType.toType t)) Tryd.func47 (by kernel_rfl) (by kernel_rfl) (by kernel_rfl) (by kernel_rfl), h]; rfl
theorem call_isNil (x : Value) (v : Value) (w w' : World) (h : (ReflectliteValue.method (ReflectliteValue.valueError "reflectlite.Value.IsNil" 0) ReflectliteValue.isNil #[x]).run Tryd.prog w = .ok v w') : (callFunc 48 #[x]).run Tryd.prog w = .ok (.value v) w' := by
  rw [@run_callFunc_extern Tryd.prog 48 _ (ReflectliteValue.method (ReflectliteValue.valueError "reflectlite.Value.IsNil" 0) ReflectliteValue.isNil) Tryd.func48 (by kernel_rfl) (by kernel_rfl) (by kernel_rfl) (by kernel_rfl), h]; rfl
theorem call_velem (x : Value) (v : Value) (w w' : World) (h : (ReflectliteValue.method (ReflectliteValue.valueError "reflectlite.Value.Elem" 0) ReflectliteValue.elem #[x]).run Tryd.prog w = .ok v w') : (callFunc 54 #[x]).run Tryd.prog w = .ok (.value v) w' := by
  rw [@run_callFunc_extern Tryd.prog 54 _ (ReflectliteValue.method (ReflectliteValue.valueError "reflectlite.Value.Elem" 0) ReflectliteValue.elem) Tryd.func54 (by kernel_rfl) (by kernel_rfl) (by kernel_rfl) (by kernel_rfl), h]; rfl
theorem call_set (x y : Value) (v : Value) (w w' : World) (h : (ReflectliteValue.set #[x, y]).run Tryd.prog w = .ok v w') : (callFunc 55 #[x, y]).run Tryd.prog w = .ok (.value v) w' := by
  rw [@run_callFunc_extern Tryd.prog 55 _ ReflectliteValue.set Tryd.func55 (by kernel_rfl) (by kernel_rfl) (by kernel_rfl) (by kernel_rfl), h]; rfl
theorem call_kind (x : Value) (v : Value) (w w' : World) (h : ((ReflectliteType.abiMethod fun t => do pure (.int .u8 (← Rtype.kind t))) #[x]).run Tryd.prog w = .ok v w') : (callFunc 70 #[x]).run Tryd.prog w = .ok (.value v) w' := by
  rw [@run_callFunc_extern Tryd.prog 70 _ (ReflectliteType.abiMethod fun t => do pure (.int .u8 (← Rtype.kind t))) Tryd.func70 (by kernel_rfl) (by kernel_rfl) (by kernel_rfl) (by kernel_rfl), h]; rfl
theorem call_elem (x : Value) (v : Value) (w w' : World) (h : (ReflectliteType.method ReflectliteType.elem #[x]).run Tryd.prog w = .ok v w') : (callFunc 82 #[x]).run Tryd.prog w = .ok (.value v) w' := by
  rw [@run_callFunc_extern Tryd.prog 82 _ (ReflectliteType.method ReflectliteType.elem) Tryd.func82 (by kernel_rfl) (by kernel_rfl) (by kernel_rfl) (by kernel_rfl), h]; rfl
theorem call_impl (x y : Value) (v : Value) (w w' : World) (h : (ReflectliteType.relation "Implements" ReflectliteType.implements_ #[x, y]).run Tryd.prog w = .ok v w') : (callFunc 83 #[x, y]).run Tryd.prog w = .ok (.value v) w' := by
  rw [@run_callFunc_extern Tryd.prog 83 _ (ReflectliteType.relation "Implements" ReflectliteType.implements_) Tryd.func83 (by kernel_rfl) (by kernel_rfl) (by kernel_rfl) (by kernel_rfl), h]; rfl
theorem call_assign (x y : Value) (v : Value) (w w' : World) (h : (ReflectliteType.relation "AssignableTo" ReflectliteType.assignableTo #[x, y]).run Tryd.prog w = .ok v w') : (callFunc 80 #[x, y]).run Tryd.prog w = .ok (.value v) w' := by
  rw [@run_callFunc_extern Tryd.prog 80 _ (ReflectliteType.relation "AssignableTo" ReflectliteType.assignableTo) Tryd.func80 (by kernel_rfl) (by kernel_rfl) (by kernel_rfl) (by kernel_rfl), h]; rfl
theorem call_typeOf (x : Value) (v : Value) (w w' : World) (h : (ReflectliteType.typeOf #[x]).run Tryd.prog w = .ok v w') : (callFunc 50 #[x]).run Tryd.prog w = .ok (.value v) w' := by
  rw [@run_callFunc_extern Tryd.prog 50 _ ReflectliteType.typeOf Tryd.func50 (by kernel_rfl) (by kernel_rfl) (by kernel_rfl) (by kernel_rfl), h]; rfl
/-- the variable of package errors that holds the type error -/
def ErrType (w : World) : Prop := w.cell? ⟨9, 0, none⟩ = some (.iface 115 (.agg #[hdl 28]))
set_option maxHeartbeats 4000000 in
theorem as_hit (e t : Addr) (old : Value) (w : World) (hg : ErrType w) (ht0 : w.cell? t = some old) (hf0 : w.frozen? t = false) :
    Calls Tryd.prog 38 #[.iface 84 (.pointer (some e)), .iface 86 (.pointer (some t))] w fun ev w' => ev = .returned (.bool true) ∧ Keeps (fun k => k = t.block) w w' ∧ w'.cell? t = some (.pointer (some e)) ∧ w'.frozen? t = false := by
  unfold ErrType at hg
  have hlt : 9 < w.heap.size := World.block_lt_of_cell? w _ hg
  have htl : t.block < w.heap.size := World.block_lt_of_cell? w _ ht0
  have f6 := fun (t : Addr) w => call_valueOf _ _ _ _ (valueOfPP t w)
  have f7 := fun (a : Addr) w => call_type _ _ _ _ (typePP a w)
  have k27 := fun w => call_kind _ _ _ _ (kindPP w)
  have k25 := fun w => call_kind _ _ _ _ (kindP w)
  have e27 := fun w => call_elem _ _ _ _ (elemPP w)
  have i25 := fun w => call_impl _ _ _ _ _ (implP w)
  have tO := fun v w => call_typeOf _ _ _ _ (typeOfP v w)
  have a25 := fun w => call_assign _ _ _ _ _ (assignP w)
  have v25 := fun e w => call_valueOf _ _ _ _ (valueOfP e w)
  have mK := methodKind
  have mE := methodElem
  have mI := methodImplements
  have mA := methodAssignableTo
  have n8 := call_isNil _ _ _ _ (isNilPP ⟨w.heap.size, 0, none⟩ t ((w.alloc (.cells #[.pointer (some t)] 86)).alloc (.cells #[hdl 86, .pointer (some ⟨w.heap.size, 0, none⟩), .int .u64 150] 101)) (by simp))
  have hg2 : ((w.alloc (.cells #[.pointer (some t)] 86)).alloc (.cells #[hdl 86, .pointer (some ⟨w.heap.size, 0, none⟩), .int .u64 150] 101)).cell? ⟨9, 0, none⟩ = some (.iface 115 (.agg #[hdl 28])) := by
    rw [World.cell?_alloc_lt _ _ ⟨9, 0, none⟩ (by simp; omega), World.cell?_alloc_lt _ _ ⟨9, 0, none⟩ hlt]; exact hg
  have el := call_velem _ _ _ _ (elemVPP ⟨w.heap.size, 0, none⟩ t (((w.alloc (.cells #[.pointer (some t)] 86)).alloc (.cells #[hdl 86, .pointer (some ⟨w.heap.size, 0, none⟩), .int .u64 150] 101)).alloc (.cells #[hdl 86, .pointer (some ⟨w.heap.size, 0, none⟩), .int .u64 150] 101)) (by rw [World.cell?_alloc_lt _ _ ⟨w.heap.size, 0, none⟩ (by simp; omega)]; simp))
  have c1 : ((((w.alloc (.cells #[.pointer (some t)] 86)).alloc (.cells #[hdl 86, .pointer (some ⟨w.heap.size, 0, none⟩), .int .u64 150] 101)).alloc (.cells #[hdl 86, .pointer (some ⟨w.heap.size, 0, none⟩), .int .u64 150] 101)).alloc (.cells #[.pointer (some e)] 84)).cell? t = some old := by rw [World.cell?_alloc_lt _ _ t (by simp; omega), World.cell?_alloc_lt _ _ t (by simp; omega), World.cell?_alloc_lt _ _ t (by simp; omega), World.cell?_alloc_lt _ _ t htl]; exact ht0
  have c2 : ((((w.alloc (.cells #[.pointer (some t)] 86)).alloc (.cells #[hdl 86, .pointer (some ⟨w.heap.size, 0, none⟩), .int .u64 150] 101)).alloc (.cells #[hdl 86, .pointer (some ⟨w.heap.size, 0, none⟩), .int .u64 150] 101)).alloc (.cells #[.pointer (some e)] 84)).frozen? t = false := by rw [World.frozen?_alloc_old _ _ t (by simp; omega), World.frozen?_alloc_old _ _ t (by simp; omega), World.frozen?_alloc_old _ _ t (by simp; omega), World.frozen?_alloc_old _ _ t (Nat.ne_of_lt htl)]; exact hf0
  have st := call_set _ _ _ _ _ (setP t ⟨w.heap.size + 1 + 1 + 1, 0, none⟩ e old ((((w.alloc (.cells #[.pointer (some t)] 86)).alloc (.cells #[hdl 86, .pointer (some ⟨w.heap.size, 0, none⟩), .int .u64 150] 101)).alloc (.cells #[hdl 86, .pointer (some ⟨w.heap.size, 0, none⟩), .int .u64 150] 101)).alloc (.cells #[.pointer (some e)] 84))
    (by rw [World.cell?_alloc_at _ _ _ _ (by simp)]; rfl) c1 c2)
  have fin : Keeps (fun k => k = t.block) w (((((w.alloc (.cells #[.pointer (some t)] 86)).alloc (.cells #[hdl 86, .pointer (some ⟨w.heap.size, 0, none⟩), .int .u64 150] 101)).alloc (.cells #[hdl 86, .pointer (some ⟨w.heap.size, 0, none⟩), .int .u64 150] 101)).alloc (.cells #[.pointer (some e)] 84)).setCell t (.pointer (some e))) :=
    (((((Keeps.refl (fun k => k = t.block) w).alloc _).alloc _).alloc _).alloc _).setCell (.inl rfl) _
  have C1 : (((((w.alloc (.cells #[.pointer (some t)] 86)).alloc (.cells #[hdl 86, .pointer (some ⟨w.heap.size, 0, none⟩), .int .u64 150] 101)).alloc (.cells #[hdl 86, .pointer (some ⟨w.heap.size, 0, none⟩), .int .u64 150] 101)).alloc (.cells #[.pointer (some e)] 84)).setCell t (.pointer (some e))).cell? t = some (.pointer (some e)) := World.cell?_setCell_same _ _ _ c1
  have C2 : (((((w.alloc (.cells #[.pointer (some t)] 86)).alloc (.cells #[hdl 86, .pointer (some ⟨w.heap.size, 0, none⟩), .int .u64 150] 101)).alloc (.cells #[hdl 86, .pointer (some ⟨w.heap.size, 0, none⟩), .int .u64 150] 101)).alloc (.cells #[.pointer (some e)] 84)).setCell t (.pointer (some e))).frozen? t = false := by rw [World.frozen?_setCell]; exact c2
  have HF := Lib.hid fin
  have H1 := Lib.hid C1
  have H2 := Lib.hid C2
  clear fin C1 C2 c1 c2
  go_enter Tryd.func38, Tryd.ntmps38
  go_wp2
  refine wp_loop_rounds 1 ?_
  rw [rounds_succ]
  go_wp2
  go_ret
  exact ⟨rfl, HF.out, H1.out, H2.out⟩
set_option maxHeartbeats 4000000 in
theorem as_miss (e t : Addr) (w : World) (hg : ErrType w) :
    Calls Tryd.prog 38 #[.iface 128 (.pointer (some e)), .iface 86 (.pointer (some t))] w fun ev w' => ev = .returned (.bool false) ∧ Ext w w' := by
  unfold ErrType at hg
  have hlt : 9 < w.heap.size := World.block_lt_of_cell? w _ hg
  have f6 := fun (t : Addr) w => call_valueOf _ _ _ _ (valueOfPP t w)
  have f7 := fun (a : Addr) w => call_type _ _ _ _ (typePP a w)
  have k27 := fun w => call_kind _ _ _ _ (kindPP w)
  have k25 := fun w => call_kind _ _ _ _ (kindP w)
  have e27 := fun w => call_elem _ _ _ _ (elemPP w)
  have i25 := fun w => call_impl _ _ _ _ _ (implP w)
  have tO := call_typeOfE
  have a25 := fun w => call_assign _ _ _ _ _ (assignE w)
  have mK := methodKind
  have mE := methodElem
  have mI := methodImplements
  have mA := methodAssignableTo
  have nA := noAsE
  have uE := noUnwrapE
  have vE := noUnwrapsE
  have n8 := call_isNil _ _ _ _ (isNilPP ⟨w.heap.size, 0, none⟩ t ((w.alloc (.cells #[.pointer (some t)] 86)).alloc (.cells #[hdl 86, .pointer (some ⟨w.heap.size, 0, none⟩), .int .u64 150] 101)) (by simp))
  have hg2 : ((w.alloc (.cells #[.pointer (some t)] 86)).alloc (.cells #[hdl 86, .pointer (some ⟨w.heap.size, 0, none⟩), .int .u64 150] 101)).cell? ⟨9, 0, none⟩ = some (.iface 115 (.agg #[hdl 28])) := by
    rw [World.cell?_alloc_lt _ _ ⟨9, 0, none⟩ (by simp; omega), World.cell?_alloc_lt _ _ ⟨9, 0, none⟩ hlt]; exact hg
  have fin : Ext w (((w.alloc (.cells #[.pointer (some t)] 86)).alloc (.cells #[hdl 86, .pointer (some ⟨w.heap.size, 0, none⟩), .int .u64 150] 101)).alloc (.cells #[hdl 86, .pointer (some ⟨w.heap.size, 0, none⟩), .int .u64 150] 101)) :=
    (((Ext.refl w).alloc _).alloc _).alloc _
  have HF := Lib.hid fin
  clear fin
  go_enter Tryd.func38, Tryd.ntmps38
  go_wp2
  refine wp_loop_rounds 1 ?_
  rw [rounds_succ]
  go_wp2
  go_ret
  exact ⟨rfl, HF.out⟩
end Go.Proofs.YtheidjagcafgnaaDoor
namespace Go.Proofs.YtheidjagcafgnaaDoor
open Go.ChangeShapes Go.WideShapes Go.RowKit Go.Deep
/-- a slice of records of one-cell fields: every field's cell and how it reads -/
theorem open_recs {H : Type} {enc : TypeId × Value → H} {P : Program} {w : World} {base : Nat} {spare : Nat → Bool} {held : Bool} {t e : TypeId} {fs : Array Field} {fuel : Nat} {cs : List Value} {x : DataW H × List MemPlace}
    (ht : P.underlying t = some (.slice e)) (he : P.underlying e = some (.struct fs)) (hone : oneCellFields P fs = true) (hC : P.cellsOf e = fs.size) (h : DataW.trod enc P w base spare held fuel t cs = some x) :
    cs = [.slice none 0 0] ∨ ∃ (a : Addr) (len cap : Nat), cs = [.slice (some a) len cap] ∧ len ≤ cap ∧ cap ≤ maxLen ∧
      ∀ i, i < len → ∀ (j : Nat) (f : Field), fs[j]? = some f → ∃ (v : Value) (y : DataW H × List MemPlace) (n : Nat), w.cell? ((a.add (i * fs.size)).add j) = some v ∧ DataW.trod enc P w base spare held n f.type [v] = some y := by
  rcases open_slice ht h with ⟨h0, _⟩ | ⟨a, len, cap, m, n, D, Pl, hcs, _, hl, hm, hmm, _, hi⟩
  · exact .inl h0
  · refine .inr ⟨a, len, cap, hcs, hl, hm, fun i hlt j f hj => ?_⟩
    have him : i < m := by rw [hmm]; split <;> omega
    obtain ⟨cs', hc, hr⟩ := hi i him
    obtain ⟨xs, k, _, _, _, hxl, hx⟩ := DataW.trod_struct he hr
    obtain ⟨_, hcl, hat⟩ := World.cells?_some hc
    rw [hC] at hcl hat
    have hjs : j < fs.size := (Array.getElem?_eq_some_iff.1 hj).1
    obtain ⟨o1, o2⟩ := hone_of hone j f hj
    have hxj := hx j f hj
    rw [o1, o2, List.drop_eq_getElem_cons (by omega)] at hxj
    have e1 : xs[j]? = some (xs[j]'(by omega)) := List.getElem?_eq_getElem (by omega)
    have e2 : w.cell? ((a.add (i * fs.size)).add j) = some (cs'[j]'(by omega)) := by
      rw [hat j hjs]; exact List.getElem?_eq_getElem (by omega)
    exact ⟨_, _, k, e2, hxj.trans e1⟩
theorem cell_add {w : World} {q : Addr} {v : Value} {k : Nat} (hk : k ≠ 0) (h : w.cell? (q.add k) = some v) : w.cell? ⟨q.block, q.off + k, none⟩ = some v := by
  unfold Addr.add at h; rw [if_neg hk] at h; exact h
/-- a sentinel of the list: its variable holds an error's pointer -/
theorem sent_star : Tryd.prog.typeName? 3 128 = some "*errors.errorString" := by kernel_rfl
theorem sent_row (u : TypeId) (h : Tryd.prog.typeName? 3 u = some "*errors.errorString") : u = 128 :=
  typeName_ptr_named (nm := "errors.errorString") (by kernel_rfl) (by kernel_rfl) (by decide) u h
theorem sentinel {l : List (String × DataW Unit)} {W : World} {n : String} {g : Nat} {text : List UInt8} {ti : TypeId} {ms : Array (String × TypeId)} (h : laidMetH Tryd.prog l W)
    (hl : l.filter (fun x => x.1 == n) = [(n, .iface "*errors.errorString" (.ptr (.agg [.lit (.string text)])))]) (hg : Tryd.prog.globalNamed n = some g)
    (ht : (Tryd.prog.globals[g]?).map (·.type) = some ti) (hi : Tryd.prog.underlying ti = some (.interface ms)) :
    ∃ (E : Addr) (s : ByteArray), W.cell? ⟨g, 0, none⟩ = some (.iface 128 (.pointer (some E))) ∧ W.cell? E = some (.string s) ∧ s.data.toList = text ∧ s.size ≤ maxLen := by
  have h1 := laidMetH.filter (fun x => x.1 == n) h
  rw [hl] at h1
  have h2 : laidMet Tryd.prog [(n, .iface "*errors.errorString" (.ptr (.agg [.lit (.string text)])))] W := h1
  obtain ⟨E, s, hv, hc, hs, hz⟩ := laid_sentinel h2 hg ht hi sent_row Tryd.underlying128 Tryd.underlying146 rfl rfl Tryd.underlying9 (by kernel_rfl) (by kernel_rfl)
  exact ⟨E, s, by simpa using World.var?_cell hg hv 0, hc, hs, hz⟩
end Go.Proofs.YtheidjagcafgnaaDoor
