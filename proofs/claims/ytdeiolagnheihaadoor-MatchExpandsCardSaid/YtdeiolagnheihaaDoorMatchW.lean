/- MatchExpands' walk. -/
import Derived.Test.YtdeiolagnheihaaDoorExpOf
import Derived.Test.YtdeiolagnheihaaDoorFaulted1
import Derived.Laws.AppendOwnNone
namespace Go.Proofs.YtdeiolagnheihaaDoor
open Go.RowKit
set_option maxRecDepth 100000
/-- the cells of tokens, one behind the other -/
def cellT (tk : Nat → Tk) (j : Nat) : Value := if j % 3 = 0 then .int .u8 ((tk (j / 3)).b.toNat : Int) else if j % 3 = 1 then .int .i64 (tk (j / 3)).l else .int .i64 (tk (j / 3)).d
def tkV (n : Nat) (tk : Nat → Tk) : List Value := (List.range (n * 3)).map (cellT tk)
theorem tkV_length (n : Nat) (tk : Nat → Tk) : (tkV n tk).length = n * 3 := by simp [tkV]
theorem tkV_get (n : Nat) (tk : Nat → Tk) (j : Nat) (h : j < n * 3) : (tkV n tk)[j]? = some (cellT tk j) := by simp [tkV, h]
theorem cellT_0 (tk : Nat → Tk) (i : Nat) : cellT tk (i * 3) = .int .u8 ((tk i).b.toNat : Int) := by
  unfold cellT; rw [if_pos (by omega), show i * 3 / 3 = i by omega]
theorem cellT_1 (tk : Nat → Tk) (i : Nat) : cellT tk (i * 3 + 1) = .int .i64 (tk i).l := by
  unfold cellT; rw [if_neg (by omega), if_pos (by omega), show (i * 3 + 1) / 3 = i by omega]
theorem cellT_2 (tk : Nat → Tk) (i : Nat) : cellT tk (i * 3 + 2) = .int .i64 (tk i).d := by
  unfold cellT; rw [if_neg (by omega), if_neg (by omega), show (i * 3 + 2) / 3 = i by omega]
theorem tk_one (n : Nat) (tk : Nat → Tk) : ∀ u ∈ tkV n tk, u.oneCell' = true := by
  intro u hu
  obtain ⟨j, _, rfl⟩ := List.mem_map.1 hu
  unfold cellT; split
  · rfl
  · split <;> rfl
theorem add_add3 (a : Addr) (i c : Nat) (hc : c ≠ 0) : a.add (i * 3 + c) = ⟨(a.add (i * 3)).block, (a.add (i * 3)).off + c, none⟩ := by
  unfold Addr.add
  rw [if_neg (by omega)]
  split
  · rename_i h
    have : i = 0 := by omega
    subst this; simp
  · simp [Nat.add_assoc]
theorem Toks.cells {w : World} {a : Addr} {n : Nat} {tk : Nat → Tk} (h : Toks w (some a) n tk) (j : Nat) (u : Value) (hj : (tkV n tk)[j]? = some u) : w.cell? (a.add j) = some u := by
  have hl : j < n * 3 := by
    rcases Nat.lt_or_ge j (n * 3) with q | q
    · exact q
    · rw [List.getElem?_eq_none (by rw [tkV_length]; exact q)] at hj; cases hj
  rw [tkV_get _ _ _ hl] at hj
  injection hj with hj
  subst hj
  obtain ⟨c0, c1, c2, _⟩ := h.2 a rfl (j / 3) (by omega)
  obtain ⟨i, c, rfl, hc⟩ : ∃ i c, j = i * 3 + c ∧ c < 3 := ⟨j / 3, j % 3, by omega, by omega⟩
  rw [show (i * 3 + c) / 3 = i by omega] at c0 c1 c2
  match c, hc with
  | 0, _ => rw [Nat.add_zero, cellT_0]; exact c0
  | 1, _ => rw [cellT_1, add_add3 _ _ _ (by decide)]; exact c1
  | 2, _ => rw [cellT_2, add_add3 _ _ _ (by decide)]; exact c2
theorem Toks.of_own {w : World} {base : Nat} {v : Value} {n : Nat} {tk : Nat → Tk} (h : w.ownsRow base 57 3 v n (tkV n tk)) (hb : ∀ i, i < n → (tk i).Ok) :
    ∃ x c, v = .slice x n c ∧ Toks w x n tk := by
  rcases ownsRow_slice h with ⟨rfl, h0⟩ | ⟨g, cap, rfl⟩
  · subst h0; exact ⟨none, 0, rfl, fun _ => rfl, fun a h => by cases h⟩
  · refine ⟨some ⟨g, 0, none⟩, cap, rfl, (fun h => by cases h), fun a ha i hi => ?_⟩
    injection ha with ha; subst ha
    rw [add_plain]
    refine ⟨?_, ?_, ?_, hb i hi⟩
    · rw [h.cellAt _ (by omega), tkV_get _ _ _ (by omega), cellT_0]
    · show w.cell? ⟨g, i * 3 + 1, none⟩ = _; rw [h.cellAt _ (by omega), tkV_get _ _ _ (by omega), cellT_1]
    · show w.cell? ⟨g, i * 3 + 2, none⟩ = _; rw [h.cellAt _ (by omega), tkV_get _ _ _ (by omega), cellT_2]
theorem Toks.oks {w : World} {x : Option Addr} {n : Nat} {tk : Nat → Tk} (h : Toks w x n tk) : ∀ i, i < n → (tk i).Ok := by
  intro i hi
  obtain ⟨a, rfl⟩ := h.isSome hi
  exact (h.2 a rfl i hi).2.2.2
theorem tokinf : (Tryd.prog.info? 57).map (fun i => (i.zero, i.size, i.bytes)) = some (some (.agg #[.int .u8 0, .int .i64 0, .int .i64 0]), 3, 24) := by kernel_rfl
def TokPost (w' : World) (n : Nat) (tk : Nat → Tk) (e : Ending) : Prop := ∃ ox oc, e = .returned (.slice ox n oc) ∧ Toks w' ox n tk
theorem tokens_any (x : Option Addr) (n cap : Nat) (tk : Nat → Tk) (w : World) (hx : Toks w x n tk) (h0 : x = none → cap = 0) (hn : n ≤ 100000) :
    Calls Tryd.prog 27 #[.slice x n cap] w fun e w' => TokPost w' n tk e ∧ Ext w w' := by
  obtain ⟨i0, hi0, hz0, hz1, hz2⟩ := info_parts tokinf
  have HX := Lib.hid hx
  clear hx
  cases x with
  | none =>
    obtain rfl := HX.out.1 rfl
    obtain rfl := h0 rfl
    go_enter Tryd.func27, Tryd.ntmps27
    go_wp2_with (at_builtin; refine wpList_append_own_none rfl _ _ 46 rfl 0 57 i0 3 Tryd.underlying46 hi0 (.slice none 0 0) 0 [] rfl (World.ownsRow_nil _ _ _ _) rfl ?_)
    go_ret
    exact ⟨⟨none, 0, rfl, fun _ => rfl, fun a h => by cases h⟩, Ext.refl _⟩
  | some a =>
    go_enter Tryd.func27, Tryd.ntmps27
    go_wp2_with (at_builtin; refine wpList_append_own_at _ rfl _ _ 46 rfl w.heap.size 57 i0 _ 3 24 Tryd.underlying46 hi0 hz0 hz1 hz2 rfl (by decide) (.slice none 0 0) 0 [] rfl (World.ownsRow_nil _ _ _ _) a n cap (tkV n tk) rfl (tkV_length _ _) HX.out.cells (tk_one _ _) ?c3 ?c4 (Nat.le_refl _) ?_)
    case c3 => unfold maxLen; omega
    case c4 => omega
    intro v' w1 hown hgrow _ _
    have hE : Ext w w1 := (Keeps.grown hgrow).below (Nat.le_refl _) (fun k _ q => by cases q)
    (try simp only [Nat.zero_add, List.nil_append] at hown)
    obtain ⟨ox, oc, rfl, ht⟩ := Toks.of_own hown HX.out.oks
    have HT := Lib.hid ht
    have HE := Lib.hid hE
    clear hown hgrow ht hE
    go_wp2_with fail
    go_ret
    exact ⟨⟨ox, oc, rfl, HT.out⟩, HE.out⟩
theorem wide_big (x : Option Addr) (n cap : Nat) (tk : Nat → Tk) (w : World) (hx : Toks w x n tk) (hn : n ≤ maxLen) (h : 300 < n) :
    Calls Tryd.prog 25 #[.slice x n cap] w fun e w' => e = .returned (.bool false) ∧ w = w' := by
  have HX := Lib.hid hx
  clear hx
  unfold maxLen at hn
  go_enter Tryd.func25, Tryd.ntmps25
  go_wp2
  go_loop [3, 4] (fun s c => ∃ (k : Nat) (z : Int), k ≤ n ∧ c = .int .i64 k ∧ s = .int .i64 z) (fun _ c => n - (intOf c).toNat)
  case atStart => exact ⟨0, 0, by omega, rfl, rfl⟩
  case round =>
    obtain ⟨k, z, hk, rfl, rfl⟩ := hrel
    by_cases hlt : k < n
    · obtain ⟨a, rfl⟩ := HX.out.isSome hlt
      obtain ⟨c0, c1, c2, okl, okd⟩ := HX.out.2 a rfl k hlt
      obtain ⟨l, hl⟩ : ∃ l, (tk k).l = l := ⟨_, rfl⟩
      rw [hl] at c1 okl
      obtain ⟨l1, l2⟩ := okl
      clear c0 c2 okd hl
      by_cases q0 : 0 < l
      · by_cases q1 : l ≤ 258
        · have t0 : decide ((0 : Int) < l) = true := decide_eq_true q0
          have t1 : decide (l ≤ 258) = true := decide_eq_true q1
          go_wp2_with fail
          go_round
          case rel => exact ⟨k + 1, _, by omega, by go_num, rfl⟩
          case measure => simp [intOf]; omega
        · have t0 : decide ((0 : Int) < l) = true := decide_eq_true q0
          have t1 : decide (l ≤ 258) = false := decide_eq_false q1
          go_wp2_with fail
          go_round
          case rel => exact ⟨k + 1, _, by omega, by go_num, rfl⟩
          case measure => simp [intOf]; omega
      · have t0 : decide ((0 : Int) < l) = false := decide_eq_false q0
        go_wp2_with fail
        go_round
        case rel => exact ⟨k + 1, _, by omega, by go_num, rfl⟩
        case measure => simp [intOf]; omega
    · obtain rfl : k = n := by omega
      go_wp2_with fail
      go_ret
      exact ⟨rfl, rfl⟩
theorem wide_small (x : Option Addr) (n cap : Nat) (tk : Nat → Tk) (w : World) (hx : Toks w x n tk) (hn : n ≤ 300) :
    Calls Tryd.prog 25 #[.slice x n cap] w fun e w' => (e = .returned (.bool true) ∨ e = .returned (.bool false)) ∧ w = w' := by
  have HX := Lib.hid hx
  clear hx
  go_enter Tryd.func25, Tryd.ntmps25
  go_wp2
  go_loop [3, 4] (fun s c => ∃ (k : Nat) (z : Int), k ≤ n ∧ c = .int .i64 k ∧ s = .int .i64 z ∧ 0 ≤ z ∧ z ≤ k * 258) (fun _ c => n - (intOf c).toNat)
  case atStart => exact ⟨0, 0, by omega, rfl, rfl, by omega, by omega⟩
  case round =>
    obtain ⟨k, z, hk, rfl, rfl, z0, z1⟩ := hrel
    by_cases hlt : k < n
    · obtain ⟨a, rfl⟩ := HX.out.isSome hlt
      obtain ⟨c0, c1, c2, okl, okd⟩ := HX.out.2 a rfl k hlt
      obtain ⟨l, hl⟩ : ∃ l, (tk k).l = l := ⟨_, rfl⟩
      rw [hl] at c1 okl
      obtain ⟨l1, l2⟩ := okl
      clear c0 c2 okd hl
      by_cases q0 : 0 < l
      · by_cases q1 : l ≤ 258
        · have t0 : decide ((0 : Int) < l) = true := decide_eq_true q0
          have t1 : decide (l ≤ 258) = true := decide_eq_true q1
          go_wp2_with fail
          go_round
          case rel => exact ⟨k + 1, z + l, by omega, by go_num, rfl, by omega, by omega⟩
          case measure => simp [intOf]; omega
        · have t0 : decide ((0 : Int) < l) = true := decide_eq_true q0
          have t1 : decide (l ≤ 258) = false := decide_eq_false q1
          go_wp2_with fail
          go_round
          case rel => exact ⟨k + 1, z, by omega, by go_num, rfl, by omega, by omega⟩
          case measure => simp [intOf]; omega
      · have t0 : decide ((0 : Int) < l) = false := decide_eq_false q0
        go_wp2_with fail
        go_round
        case rel => exact ⟨k + 1, z, by omega, by go_num, rfl, by omega, by omega⟩
        case measure => simp [intOf]; omega
    · obtain rfl : k = n := by omega
      by_cases q : z ≤ 6000
      · have t0 : decide (z ≤ 6000) = true := decide_eq_true q
        go_wp2_with fail
        go_ret
        exact ⟨.inl rfl, rfl⟩
      · have t0 : decide (z ≤ 6000) = false := decide_eq_false q
        go_wp2_with fail
        go_ret
        exact ⟨.inr rfl, rfl⟩
def sameT (i : Nat) : Tk := if i = 0 then ⟨97, 0, 0⟩ else ⟨0, 5, 1⟩
theorem same_any (w : World) (E : Nat → Addr) (hE : Errs w E) : Calls Tryd.prog 24 #[] w fun e w' => e = .returned (.bool true) ∧ Ext w w' := by
  have HE := Lib.hid hE
  clear hE
  go_enter Tryd.func24, Tryd.ntmps24
  go_wp2_with fail
  refine calls_world (fun wz => Ext w wz ∧ wz.heap.size = w.heap.size + 1 ∧ Bk wz (w.heap.size) #[.int .u8 97, .int .i64 0, .int .i64 0, .int .u8 0, .int .i64 5, .int .i64 1]) ⟨by repeat (first | exact Ext.refl _ | refine Ext.alloc ?_ _), by simp, by repeat (first | exact Bk.at (by simp) | refine Bk.old ?_)⟩ ?_
  rintro w1 ⟨hX, hZ, hB0⟩
  have HT : Hid (Toks w1 (some ⟨w.heap.size, 0, none⟩) 2 sameT) := Lib.hid (by
    refine ⟨(fun h => by cases h), fun a ha i hi => ?_⟩
    injection ha with ha; subst ha
    rw [add_plain]
    match i, hi with
    | 0, _ => exact ⟨hB0.cell 0, hB0.cell 1, hB0.cell 2, ⟨by decide, by decide⟩, ⟨by decide, by decide⟩⟩
    | 1, _ => exact ⟨hB0.cell 3, hB0.cell 4, hB0.cell 5, ⟨by decide, by decide⟩, ⟨by decide, by decide⟩⟩)
  have HX := Lib.hid hX
  clear hX hZ hB0
  have hr : expL sameT 2 = .ok [97, 97, 97, 97, 97, 97] := by rfl
  have HR := Lib.hid hr
  clear hr
  refine (expand_any _ 2 2 sameT w1 E (HE.out.ext HX.out) HT.out (by unfold maxLen; omega)).mono ?_
  rintro e w2 ⟨h2, h⟩
  rw [HR.out] at h
  rcases h with ⟨out, ho, rfl⟩ | ⟨c, i, F, _, _, ho, _⟩
  · injection ho with ho
    subst ho
    have H2 := Lib.hid (HX.out.trans h2)
    clear h2
    go_wp2_with fail
    go_ret
    exact ⟨rfl, H2.out⟩
  · cases ho
theorem matchExpands_any (x : Option Addr) (n cap : Nat) (tk : Nat → Tk) (w : World) (E : Nat → Addr) (hE : Errs w E) (hx : Toks w x n tk) (h0 : x = none → cap = 0) (hn : n ≤ maxLen) :
    Calls Tryd.prog 7 #[.slice x n cap] w fun e w' => e = .returned (.bool true) ∧ Ext w w' := by
  have HE := Lib.hid hE
  have HX := Lib.hid hx
  clear hE hx
  by_cases hb : 300 < n
  · go_enter Tryd.func7, Tryd.ntmps7
    go_wp2_with fail
    refine (same_any _ E HE.out).mono ?_
    rintro e w1 ⟨rfl, h1⟩
    have X1 := Lib.hid (h1)
    clear h1
    go_wp2_with fail
    refine (wide_big x n cap tk _ (HX.out.ext X1.out) hn hb).mono ?_
    rintro e w2 ⟨rfl, rfl⟩
    go_wp2_with fail
    go_ret
    exact ⟨rfl, X1.out⟩
  have hn3 : n ≤ 300 := by omega
  clear hb
  go_enter Tryd.func7, Tryd.ntmps7
  go_wp2_with fail
  refine (same_any _ E HE.out).mono ?_
  rintro e w1 ⟨rfl, h1⟩
  have X1 := Lib.hid (h1)
  clear h1
  go_wp2_with fail
  refine (wide_small x n cap tk _ (HX.out.ext X1.out) hn3).mono ?_
  rintro e w2 ⟨rfl | rfl, rfl⟩
  · go_wp2_with fail
    refine (tokens_any x n cap tk _ (HX.out.ext X1.out) h0 (by omega)).mono ?_
    rintro e w3 ⟨⟨ox, oc, rfl, ht⟩, h3⟩
    have X3 := Lib.hid (X1.out.trans h3)
    have T3 := Lib.hid (ht)
    clear h3 ht
    go_wp2_with fail
    refine (expand_any ox n oc tk _ E (HE.out.ext X3.out) T3.out hn).mono ?_
    rintro e w4 ⟨h4, hr⟩
    have X4 := Lib.hid (X3.out.trans h4)
    clear h4
    rcases hr with ⟨out, ho, rfl⟩ | ⟨c, i, F, hc, hi, ho, rfl, hF⟩
    · have HO := Lib.hid ho
      clear ho
      go_wp2_with fail
      refine (expandOf_any x n cap tk _ (HX.out.ext X4.out) hn).mono ?_
      rintro e w5 ⟨h5, hr⟩
      have X5 := Lib.hid (X4.out.trans h5)
      rw [HO.out] at hr
      rcases hr with ⟨out', ho', rfl⟩ | ⟨c, i, _, ho', _⟩
      · injection ho' with ho'
        subst ho'
        clear h5
        have t0 : ((out.toArray == out.toArray) : Bool) = true := by simp
        go_wp2_with fail
        go_ret
        exact ⟨ret_bool (by simp), by repeat (first | exact X5.out | refine Ext.alloc ?_ _)⟩
      · cases ho'
    · have HO := Lib.hid ho
      have HV := Lib.hid (ErrV.fault c F i hc hF (by omega) hi : ErrV w4 E _ ((c : Int) + 1) i)
      clear ho hF
      go_wp2_with fail
      refine (expandOf_any x n cap tk _ (HX.out.ext X4.out) hn).mono ?_
      rintro e w5 ⟨h5, hr⟩
      have X5 := Lib.hid (X4.out.trans h5)
      have V5 := Lib.hid (HV.out.ext h5)
      rw [HO.out] at hr
      rcases hr with ⟨out', ho', _⟩ | ⟨c', i', _, ho', rfl⟩
      · cases ho'
      · injection ho' with e1 e2
        subst e1 e2
        clear h5 HO HV
        have t0 : decide ((0 : Int) < (c : Int) + 1) = true := decide_eq_true (by omega)
        go_wp2_with fail
        refine calls_world (fun wz => Ext w5 wz ∧ wz.heap.size = w5.heap.size + 1 ∧ Bk wz (w5.heap.size) #[.int .i64 ((c : Int) + 1), .int .i64 (i : Int)]) ⟨by repeat (first | exact Ext.refl _ | refine Ext.alloc ?_ _), by simp, by repeat (first | exact Bk.at (by simp) | refine Bk.old ?_)⟩ ?_
        rintro w6 ⟨hX, hZ, hB0⟩
        have X6 := Lib.hid (X5.out.trans hX)
        have V6 := Lib.hid (V5.out.ext hX)
        clear hX hZ hB0
        refine (faulted_any _ E (HE.out.ext X6.out) _ _ _ ((c : Int) + 1) i V6.out).mono ?_
        rintro e w7 ⟨he, h7⟩
        obtain rfl : e = .returned (.bool true) := by rw [he]; exact ret_bool (by simp)
        have X7 := Lib.hid (X6.out.trans h7)
        clear he h7
        go_wp2_with fail
        go_ret
        exact ⟨rfl, X7.out⟩
  · go_wp2_with fail
    go_ret
    exact ⟨rfl, X1.out⟩
end Go.Proofs.YtdeiolagnheihaaDoor
