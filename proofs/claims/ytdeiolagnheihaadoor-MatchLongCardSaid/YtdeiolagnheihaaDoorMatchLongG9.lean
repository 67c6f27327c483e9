/-
  MatchExpands' walk.
  match.Tokens.
-/
import Derived.Test.YtdeiolagnheihaaDoorMatchLongG8
import Derived.Laws.AppendOwnNone
import Derived.Test.YtdeiolagnheihaaDoorMatchLongG7
import Derived.Deep.DeepCutAuto
import Derived.Deep.CutBlock
namespace Go.Proofs.YtdeiolagnheihaaDoor
open Go.RowKit
set_option maxRecDepth 100000
/-- the cells of tokens, one behind the other -/
def cellT (tk : Nat → Tk) (j : Nat) : Value := if j % 3 = 0 then .int .u8 ((tk (j / 3)).b.toNat : Int) else if j % 3 = 1 then .int .i64 (tk (j / 3)).l else .int .i64 (tk (j / 3)).d
def tkV (n : Nat) (tk : Nat → Tk) : List Value := (List.range (n * 3)).map (cellT tk)
theorem tkV_length (n : Nat) (tk : Nat → Tk) : (tkV n tk).length = n * 3 := by simp [tkV]
theorem tkV_get (n : Nat) (tk : Nat → Tk) (j : Nat) (h : j < n * 3) : (tkV n tk)[j]? = some (cellT tk j) := by simp [tkV, h]
theorem cellT_0 (tk : Nat → Tk) (i : Nat) : cellT tk (i * 3) = .int .u8 ((tk i).b.toNat : Int) := by
  unfold cellT; rw [if_pos (by omega), show i * 3 / 3 = i by omega]
theorem cellT_1 (tk : Nat → Tk) (i : Nat) : cellT tk (i * 3 + 1) = .int .i64 (tk i).l := by
  unfold cellT; rw [if_neg (by omega), if_pos (by omega), show (i * 3 + 1) / 3 = i by omega]
theorem cellT_2 (tk : Nat → Tk) (i : Nat) : cellT tk (i * 3 + 2) = .int .i64 (tk i).d := by
  unfold cellT; rw [if_neg (by omega), if_neg (by omega), show (i * 3 + 2) / 3 = i by omega]
theorem tk_one (n : Nat) (tk : Nat → Tk) : ∀ u ∈ tkV n tk, u.oneCell' = true := by
  intro u hu
  obtain ⟨j, _, rfl⟩ := List.mem_map.1 hu
  unfold cellT; split
  · rfl
  · split <;> rfl
theorem add_add3 (a : Addr) (i c : Nat) (hc : c ≠ 0) : a.add (i * 3 + c) = ⟨(a.add (i * 3)).block, (a.add (i * 3)).off + c, none⟩ := by
  unfold Addr.add
  rw [if_neg (by omega)]
  split
  · rename_i h
    have : i = 0 := by omega
    subst this; simp
  · simp [Nat.add_assoc]
theorem Toks.cells {w : World} {a : Addr} {n : Nat} {tk : Nat → Tk} (h : Toks w (some a) n tk) (j : Nat) (u : Value) (hj : (tkV n tk)[j]? = some u) : w.cell? (a.add j) = some u := by
  have hl : j < n * 3 := by
    rcases Nat.lt_or_ge j (n * 3) with q | q
    · exact q
    · rw [List.getElem?_eq_none (by rw [tkV_length]; exact q)] at hj; cases hj
  rw [tkV_get _ _ _ hl] at hj
  injection hj with hj
  subst hj
  obtain ⟨c0, c1, c2, _⟩ := h.2 a rfl (j / 3) (by omega)
  obtain ⟨i, c, rfl, hc⟩ : ∃ i c, j = i * 3 + c ∧ c < 3 := ⟨j / 3, j % 3, by omega, by omega⟩
  rw [show (i * 3 + c) / 3 = i by omega] at c0 c1 c2
  match c, hc with
  | 0, _ => rw [Nat.add_zero, cellT_0]; exact c0
  | 1, _ => rw [cellT_1, add_add3 _ _ _ (by decide)]; exact c1
  | 2, _ => rw [cellT_2, add_add3 _ _ _ (by decide)]; exact c2
theorem Toks.of_own {w : World} {base : Nat} {v : Value} {n : Nat} {tk : Nat → Tk} (h : w.ownsRow base 57 3 v n (tkV n tk)) (hb : ∀ i, i < n → (tk i).Ok) :
    ∃ x c, v = .slice x n c ∧ Toks w x n tk := by
  rcases ownsRow_slice h with ⟨rfl, h0⟩ | ⟨g, cap, rfl⟩
  · subst h0; exact ⟨none, 0, rfl, fun _ => rfl, fun a h => by cases h⟩
  · refine ⟨some ⟨g, 0, none⟩, cap, rfl, (fun h => by cases h), fun a ha i hi => ?_⟩
    injection ha with ha; subst ha
    rw [add_plain]
    refine ⟨?_, ?_, ?_, hb i hi⟩
    · rw [h.cellAt _ (by omega), tkV_get _ _ _ (by omega), cellT_0]
    · show w.cell? ⟨g, i * 3 + 1, none⟩ = _; rw [h.cellAt _ (by omega), tkV_get _ _ _ (by omega), cellT_1]
    · show w.cell? ⟨g, i * 3 + 2, none⟩ = _; rw [h.cellAt _ (by omega), tkV_get _ _ _ (by omega), cellT_2]
theorem Toks.oks {w : World} {x : Option Addr} {n : Nat} {tk : Nat → Tk} (h : Toks w x n tk) : ∀ i, i < n → (tk i).Ok := by
  intro i hi
  obtain ⟨a, rfl⟩ := h.isSome hi
  exact (h.2 a rfl i hi).2.2.2
theorem tokinf : (Tryd.prog.info? 57).map (fun i => (i.zero, i.size, i.bytes)) = some (some (.agg #[.int .u8 0, .int .i64 0, .int .i64 0]), 3, 24) := by kernel_rfl
def TokPost (w' : World) (n : Nat) (tk : Nat → Tk) (e : Ending) : Prop := ∃ ox oc, e = .returned (.slice ox n oc) ∧ Toks w' ox n tk
theorem tokens_any (x : Option Addr) (n cap : Nat) (tk : Nat → Tk) (w : World) (hx : Toks w x n tk) (h0 : x = none → cap = 0) (hn : n ≤ 100000) :
    Calls Tryd.prog 27 #[.slice x n cap] w fun e w' => TokPost w' n tk e ∧ Ext w w' := by
  obtain ⟨i0, hi0, hz0, hz1, hz2⟩ := info_parts tokinf
  have HX := Lib.hid hx
  clear hx
  cases x with
  | none =>
    obtain rfl := HX.out.1 rfl
    obtain rfl := h0 rfl
    go_enter Tryd.func27, Tryd.ntmps27
    go_wp2_with (at_builtin; refine wpList_append_own_none rfl _ _ 46 rfl 0 57 i0 3 Tryd.underlying46 hi0 (.slice none 0 0) 0 [] rfl (World.ownsRow_nil _ _ _ _) rfl ?_)
    go_ret
    exact ⟨⟨none, 0, rfl, fun _ => rfl, fun a h => by cases h⟩, Ext.refl _⟩
  | some a =>
    go_enter Tryd.func27, Tryd.ntmps27
    go_wp2_with (at_builtin; refine wpList_append_own_at _ rfl _ _ 46 rfl w.heap.size 57 i0 _ 3 24 Tryd.underlying46 hi0 hz0 hz1 hz2 rfl (by decide) (.slice none 0 0) 0 [] rfl (World.ownsRow_nil _ _ _ _) a n cap (tkV n tk) rfl (tkV_length _ _) HX.out.cells (tk_one _ _) ?c3 ?c4 (Nat.le_refl _) ?_)
    case c3 => unfold maxLen; omega
    case c4 => omega
    intro v' w1 hown hgrow _ _
    have hE : Ext w w1 := (Keeps.grown hgrow).below (Nat.le_refl _) (fun k _ q => by cases q)
    (try simp only [Nat.zero_add, List.nil_append] at hown)
    obtain ⟨ox, oc, rfl, ht⟩ := Toks.of_own hown HX.out.oks
    have HT := Lib.hid ht
    have HE := Lib.hid hE
    clear hown hgrow ht hE
    go_wp2_with fail
    go_ret
    exact ⟨⟨ox, oc, rfl, HT.out⟩, HE.out⟩
theorem wide_big (x : Option Addr) (n cap : Nat) (tk : Nat → Tk) (w : World) (hx : Toks w x n tk) (hn : n ≤ maxLen) (h : 300 < n) :
    Calls Tryd.prog 25 #[.slice x n cap] w fun e w' => e = .returned (.bool false) ∧ w = w' := by
  have HX := Lib.hid hx
  clear hx
  unfold maxLen at hn
  go_enter Tryd.func25, Tryd.ntmps25
  go_wp2
  go_loop [3, 4] (fun s c => ∃ (k : Nat) (z : Int), k ≤ n ∧ c = .int .i64 k ∧ s = .int .i64 z) (fun _ c => n - (intOf c).toNat)
  case atStart => exact ⟨0, 0, by omega, rfl, rfl⟩
  case round =>
    obtain ⟨k, z, hk, rfl, rfl⟩ := hrel
    by_cases hlt : k < n
    · obtain ⟨a, rfl⟩ := HX.out.isSome hlt
      obtain ⟨c0, c1, c2, okl, okd⟩ := HX.out.2 a rfl k hlt
      obtain ⟨l, hl⟩ : ∃ l, (tk k).l = l := ⟨_, rfl⟩
      rw [hl] at c1 okl
      obtain ⟨l1, l2⟩ := okl
      clear c0 c2 okd hl
      by_cases q0 : 0 < l
      · by_cases q1 : l ≤ 258
        · have t0 : decide ((0 : Int) < l) = true := decide_eq_true q0
          have t1 : decide (l ≤ 258) = true := decide_eq_true q1
          go_wp2_with fail
          go_round
          case rel => exact ⟨k + 1, _, by omega, by go_num, rfl⟩
          case measure => simp [intOf]; omega
        · have t0 : decide ((0 : Int) < l) = true := decide_eq_true q0
          have t1 : decide (l ≤ 258) = false := decide_eq_false q1
          go_wp2_with fail
          go_round
          case rel => exact ⟨k + 1, _, by omega, by go_num, rfl⟩
          case measure => simp [intOf]; omega
      · have t0 : decide ((0 : Int) < l) = false := decide_eq_false q0
        go_wp2_with fail
        go_round
        case rel => exact ⟨k + 1, _, by omega, by go_num, rfl⟩
        case measure => simp [intOf]; omega
    · obtain rfl : k = n := by omega
      go_wp2_with fail
      go_ret
      exact ⟨rfl, rfl⟩
theorem wide_small (x : Option Addr) (n cap : Nat) (tk : Nat → Tk) (w : World) (hx : Toks w x n tk) (hn : n ≤ 300) :
    Calls Tryd.prog 25 #[.slice x n cap] w fun e w' => (e = .returned (.bool true) ∨ e = .returned (.bool false)) ∧ w = w' := by
  have HX := Lib.hid hx
  clear hx
  go_enter Tryd.func25, Tryd.ntmps25
  go_wp2
  go_loop [3, 4] (fun s c => ∃ (k : Nat) (z : Int), k ≤ n ∧ c = .int .i64 k ∧ s = .int .i64 z ∧ 0 ≤ z ∧ z ≤ k * 258) (fun _ c => n - (intOf c).toNat)
  case atStart => exact ⟨0, 0, by omega, rfl, rfl, by omega, by omega⟩
  case round =>
    obtain ⟨k, z, hk, rfl, rfl, z0, z1⟩ := hrel
    by_cases hlt : k < n
    · obtain ⟨a, rfl⟩ := HX.out.isSome hlt
      obtain ⟨c0, c1, c2, okl, okd⟩ := HX.out.2 a rfl k hlt
      obtain ⟨l, hl⟩ : ∃ l, (tk k).l = l := ⟨_, rfl⟩
      rw [hl] at c1 okl
      obtain ⟨l1, l2⟩ := okl
      clear c0 c2 okd hl
      by_cases q0 : 0 < l
      · by_cases q1 : l ≤ 258
        · have t0 : decide ((0 : Int) < l) = true := decide_eq_true q0
          have t1 : decide (l ≤ 258) = true := decide_eq_true q1
          go_wp2_with fail
          go_round
          case rel => exact ⟨k + 1, z + l, by omega, by go_num, rfl, by omega, by omega⟩
          case measure => simp [intOf]; omega
        · have t0 : decide ((0 : Int) < l) = true := decide_eq_true q0
          have t1 : decide (l ≤ 258) = false := decide_eq_false q1
          go_wp2_with fail
          go_round
          case rel => exact ⟨k + 1, z, by omega, by go_num, rfl, by omega, by omega⟩
          case measure => simp [intOf]; omega
      · have t0 : decide ((0 : Int) < l) = false := decide_eq_false q0
        go_wp2_with fail
        go_round
        case rel => exact ⟨k + 1, z, by omega, by go_num, rfl, by omega, by omega⟩
        case measure => simp [intOf]; omega
    · obtain rfl : k = n := by omega
      by_cases q : z ≤ 6000
      · have t0 : decide (z ≤ 6000) = true := decide_eq_true q
        go_wp2_with fail
        go_ret
        exact ⟨.inl rfl, rfl⟩
      · have t0 : decide (z ≤ 6000) = false := decide_eq_false q
        go_wp2_with fail
        go_ret
        exact ⟨.inr rfl, rfl⟩
def sameT (i : Nat) : Tk := if i = 0 then ⟨97, 0, 0⟩ else ⟨0, 5, 1⟩
theorem same_any (w : World) (E : Nat → Addr) (hE : Errs w E) : Calls Tryd.prog 24 #[] w fun e w' => e = .returned (.bool true) ∧ Ext w w' := by
  have HE := Lib.hid hE
  clear hE
  go_enter Tryd.func24, Tryd.ntmps24
  go_wp2_with fail
  refine calls_world (fun wz => Ext w wz ∧ wz.heap.size = w.heap.size + 1 ∧ Bk wz (w.heap.size) #[.int .u8 97, .int .i64 0, .int .i64 0, .int .u8 0, .int .i64 5, .int .i64 1]) ⟨by repeat (first | exact Ext.refl _ | refine Ext.alloc ?_ _), by simp, by repeat (first | exact Bk.at (by simp) | refine Bk.old ?_)⟩ ?_
  rintro w1 ⟨hX, hZ, hB0⟩
  have HT : Hid (Toks w1 (some ⟨w.heap.size, 0, none⟩) 2 sameT) := Lib.hid (by
    refine ⟨(fun h => by cases h), fun a ha i hi => ?_⟩
    injection ha with ha; subst ha
    rw [add_plain]
    match i, hi with
    | 0, _ => exact ⟨hB0.cell 0, hB0.cell 1, hB0.cell 2, ⟨by decide, by decide⟩, ⟨by decide, by decide⟩⟩
    | 1, _ => exact ⟨hB0.cell 3, hB0.cell 4, hB0.cell 5, ⟨by decide, by decide⟩, ⟨by decide, by decide⟩⟩)
  have HX := Lib.hid hX
  clear hX hZ hB0
  have hr : expL sameT 2 = .ok [97, 97, 97, 97, 97, 97] := by rfl
  have HR := Lib.hid hr
  clear hr
  refine (expand_any _ 2 2 sameT w1 E (HE.out.ext HX.out) HT.out (by unfold maxLen; omega)).mono ?_
  rintro e w2 ⟨h2, h⟩
  rw [HR.out] at h
  rcases h with ⟨out, ho, rfl⟩ | ⟨c, i, F, _, _, ho, _⟩
  · injection ho with ho
    subst ho
    have H2 := Lib.hid (HX.out.trans h2)
    clear h2
    go_wp2_with fail
    go_ret
    exact ⟨rfl, H2.out⟩
  · cases ho
theorem matchExpands_any (x : Option Addr) (n cap : Nat) (tk : Nat → Tk) (w : World) (E : Nat → Addr) (hE : Errs w E) (hx : Toks w x n tk) (h0 : x = none → cap = 0) (hn : n ≤ maxLen) :
    Calls Tryd.prog 7 #[.slice x n cap] w fun e w' => e = .returned (.bool true) ∧ Ext w w' := by
  have HE := Lib.hid hE
  have HX := Lib.hid hx
  clear hE hx
  by_cases hb : 300 < n
  · go_enter Tryd.func7, Tryd.ntmps7
    go_wp2_with fail
    refine (same_any _ E HE.out).mono ?_
    rintro e w1 ⟨rfl, h1⟩
    have X1 := Lib.hid (h1)
    clear h1
    go_wp2_with fail
    refine (wide_big x n cap tk _ (HX.out.ext X1.out) hn hb).mono ?_
    rintro e w2 ⟨rfl, rfl⟩
    go_wp2_with fail
    go_ret
    exact ⟨rfl, X1.out⟩
  have hn3 : n ≤ 300 := by omega
  clear hb
  go_enter Tryd.func7, Tryd.ntmps7
  go_wp2_with fail
  refine (same_any _ E HE.out).mono ?_
  rintro e w1 ⟨rfl, h1⟩
  have X1 := Lib.hid (h1)
  clear h1
  go_wp2_with fail
  refine (wide_small x n cap tk _ (HX.out.ext X1.out) hn3).mono ?_
  rintro e w2 ⟨rfl | rfl, rfl⟩
  · go_wp2_with fail
    refine (tokens_any x n cap tk _ (HX.out.ext X1.out) h0 (by omega)).mono ?_
    rintro e w3 ⟨⟨ox, oc, rfl, ht⟩, h3⟩
    have X3 := Lib.hid (X1.out.trans h3)
    have T3 := Lib.hid (ht)
    clear h3 ht
    go_wp2_with fail
    refine (expand_any ox n oc tk _ E (HE.out.ext X3.out) T3.out hn).mono ?_
    rintro e w4 ⟨h4, hr⟩
    have X4 := Lib.hid (X3.out.trans h4)
    clear h4
    rcases hr with ⟨out, ho, rfl⟩ | ⟨c, i, F, hc, hi, ho, rfl, hF⟩
    · have HO := Lib.hid ho
      clear ho
      go_wp2_with fail
      refine (expandOf_any x n cap tk _ (HX.out.ext X4.out) hn).mono ?_
      rintro e w5 ⟨h5, hr⟩
      have X5 := Lib.hid (X4.out.trans h5)
      rw [HO.out] at hr
      rcases hr with ⟨out', ho', rfl⟩ | ⟨c, i, _, ho', _⟩
      · injection ho' with ho'
        subst ho'
        clear h5
        have t0 : ((out.toArray == out.toArray) : Bool) = true := by simp
        go_wp2_with fail
        go_ret
        exact ⟨ret_bool (by simp), by repeat (first | exact X5.out | refine Ext.alloc ?_ _)⟩
      · cases ho'
    · have HO := Lib.hid ho
      have HV := Lib.hid (ErrV.fault c F i hc hF (by omega) hi : ErrV w4 E _ ((c : Int) + 1) i)
      clear ho hF
      go_wp2_with fail
      refine (expandOf_any x n cap tk _ (HX.out.ext X4.out) hn).mono ?_
      rintro e w5 ⟨h5, hr⟩
      have X5 := Lib.hid (X4.out.trans h5)
      have V5 := Lib.hid (HV.out.ext h5)
      rw [HO.out] at hr
      rcases hr with ⟨out', ho', _⟩ | ⟨c', i', _, ho', rfl⟩
      · cases ho'
      · injection ho' with e1 e2
        subst e1 e2
        clear h5 HO HV
        have t0 : decide ((0 : Int) < (c : Int) + 1) = true := decide_eq_true (by omega)
        go_wp2_with fail
        refine calls_world (fun wz => Ext w5 wz ∧ wz.heap.size = w5.heap.size + 1 ∧ Bk wz (w5.heap.size) #[.int .i64 ((c : Int) + 1), .int .i64 (i : Int)]) ⟨by repeat (first | exact Ext.refl _ | refine Ext.alloc ?_ _), by simp, by repeat (first | exact Bk.at (by simp) | refine Bk.old ?_)⟩ ?_
        rintro w6 ⟨hX, hZ, hB0⟩
        have X6 := Lib.hid (X5.out.trans hX)
        have V6 := Lib.hid (V5.out.ext hX)
        clear hX hZ hB0
        refine (faulted_any _ E (HE.out.ext X6.out) _ _ _ ((c : Int) + 1) i V6.out).mono ?_
        rintro e w7 ⟨he, h7⟩
        obtain rfl : e = .returned (.bool true) := by rw [he]; exact ret_bool (by simp)
        have X7 := Lib.hid (X6.out.trans h7)
        clear he h7
        go_wp2_with fail
        go_ret
        exact ⟨rfl, X7.out⟩
  · go_wp2_with fail
    go_ret
    exact ⟨rfl, X1.out⟩
end Go.Proofs.YtdeiolagnheihaaDoor
namespace Go.Proofs.YtdeiolagnheihaaDoor
open Go.RowKit
set_option maxRecDepth 100000
theorem tkV_push (l : List Tk) (t : Tk) : tkV (l ++ [t]).length (tkl (l ++ [t])) = tkV l.length (tkl l) ++ [.int .u8 (t.b.toNat : Int), .int .i64 t.l, .int .i64 t.d] := by
  have e : (l ++ [t]).length * 3 = l.length * 3 + 1 + 1 + 1 := by rw [List.length_append, List.length_singleton]; omega
  have h0 : (List.range (l.length * 3)).map (cellT (tkl (l ++ [t]))) = (List.range (l.length * 3)).map (cellT (tkl l)) := by
    apply List.map_congr_left
    intro j hj
    have hj := List.mem_range.1 hj
    unfold cellT
    rw [tkl_old l t (by omega)]
  unfold tkV
  rw [e, List.range_succ, List.range_succ, List.range_succ, List.map_append, List.map_append, List.map_append, h0]
  simp only [List.map_cons, List.map_nil, List.append_assoc, List.cons_append, List.nil_append]
  rw [cellT_0, cellT_1, cellT_2, tkl_new]
theorem row_sl {w : World} {base : Nat} {e : TypeId} {size n : Nat} {v : Value} {xs : List Value} (h : w.ownsRow base e size v n xs) : ∃ x c, v = .slice x n c := by
  rcases ownsRow_slice h with ⟨rfl, rfl⟩ | ⟨g, c, rfl⟩
  · exact ⟨none, 0, rfl⟩
  · exact ⟨some ⟨g, 0, none⟩, c, rfl⟩
theorem owns_b {w : World} {b b' : Nat} {e : TypeId} {size : Nat} {v : Value} {n : Nat} {xs : List Value} (h : w.ownsRow b e size v n xs) (hb : b' ≤ b) : w.ownsRow b' e size v n xs := by
  obtain ⟨h1, h2⟩ := h
  refine ⟨h1, ?_⟩
  rcases h2 with h2 | ⟨g, cap, cur, hv, hg, r⟩
  · exact .inl h2
  · exact .inr ⟨g, cap, cur, hv, by omega, r⟩
structure TS (w0 w : World) (base B mp ab : Nat) (s : ByteArray) (W T q : Nat) (v : Value) (l : List Tk) : Prop where
  ext : Ext w0 w
  st : FSt w B mp ab s (W : Int) (T : Int) q
  row : w.ownsRow base 57 3 v l.length (tkV l.length (tkl l))
  o2 : w0.heap.size ≤ mp
  o3 : w0.heap.size ≤ ab
  lt : B < base ∧ mp < base ∧ ab < base
  bw : base ≤ w.heap.size
  b0 : w0.heap.size ≤ base
theorem TS.step {w0 w w' : World} {base B mp ab W T q : Nat} {s : ByteArray} {v : Value} {l : List Tk} (h : TS w0 w base B mp ab s W T q v l) (hE : Ext w w') : TS w0 w' base B mp ab s W T q v l :=
  ⟨h.ext.trans hE, h.st.ext hE, ownsRow_kept h.row (hE.keeps (S := fun _ => False)) (fun _ _ q => q), h.o2, h.o3, h.lt, Nat.le_trans h.bw hE.size, h.b0⟩
theorem TS.put {w0 w w' : World} {base B mp ab W T q q' : Nat} {s : ByteArray} {v : Value} {l : List Tk} (h : TS w0 w base B mp ab s W T q v l) (hs : FSt w' B mp ab s (W : Int) (T : Int) q') (hk : Keeps (fun k => k = mp ∨ k = ab) w w') : TS w0 w' base B mp ab s W T q' v l :=
  ⟨Below.trans h.ext (hk.below h.ext.size (fun k hk' e => by rcases e with e | e; (have := h.o2; omega); have := h.o3; omega)), hs, ownsRow_kept h.row hk (fun k hk' e => by have := (h.row.lt k hk').1; have := h.lt; omega), h.o2, h.o3, h.lt, Nat.le_trans h.bw hk.size, h.b0⟩
theorem TS.grow {w0 w w' : World} {base B mp ab W T q : Nat} {s : ByteArray} {v v' : Value} {l : List Tk} {t : Tk} (h : TS w0 w base B mp ab s W T q v l) (hk : Keeps (fun k => v.ownBlock = some k) w w') (ho : w'.ownsRow base 57 3 v' (l ++ [t]).length (tkV (l ++ [t]).length (tkl (l ++ [t])))) : TS w0 w' base B mp ab s W T q v' (l ++ [t]) := by
  have nb : ∀ k, k < base → ¬ v.ownBlock = some k := fun k hk' e => by have := (h.row.lt k e).1; omega
  exact ⟨Below.trans h.ext (hk.below h.ext.size (fun k hk' => nb k (Nat.lt_of_lt_of_le hk' h.b0))), h.st.keeps hk (nb _ h.lt.1) (nb _ h.lt.2.1) (nb _ h.lt.2.2), ho, h.o2, h.o3, h.lt, Nat.le_trans h.bw hk.size, h.b0⟩
def triesOf (s : ByteArray) : Nat := if 3000 < s.size then 64 else s.size
def tokAt (s : ByteArray) (a m d : Nat) : Tk := if m = 0 then ⟨s.data.toList.getD a 0, 0, 0⟩ else ⟨0, m, d⟩
theorem TL.more {s : ByteArray} {W T a m d : Nat} {l : List Tk} (h : TL s W T a l) (ha : a < s.size) (hs : s.size ≤ 300000) (hW : W ≤ 32768) (hG : Mt.Good (byt s) s.size W a m d) (hL : s.size ≤ T → Mt.Long (byt s) s.size W a m d) : TL s W T (a + (if m = 0 then 1 else m)) (l ++ [tokAt s a m d]) := by
  unfold tokAt
  by_cases hm : m = 0
  · subst hm
    rw [if_pos rfl, if_pos rfl]
    exact h.lit ha hs (fun hT => ⟨d, hL hT⟩)
  · rw [if_neg hm, if_neg hm]
    exact h.mat (hG.one hm) hs hW hL
set_option linter.unusedSimpArgs false in
set_option maxHeartbeats 4000000 in
theorem tokens_bad (s : ByteArray) (wd : Int) (w : World) (E : Nat → Addr) (hE : Errs w E) (hs : s.size ≤ maxLen) (h : badB s wd = true) :
    Calls Tryd.prog 29 #[.string s, .int .i64 wd] w fun e w' => e = .returned (.tuple #[.slice none 0 0, .iface 180 (.pointer (some (E 1)))]) ∧ Ext w w' := by
  have hv := errs_cell1 hE.er2
  clear hE
  have HB := Lib.hid (mbad_any s wd w hs)
  rw [h] at HB
  go_enter Tryd.func29, Tryd.ntmps29
  go_wp2_with fail
  refine HB.out.mono ?_
  rintro e w9 ⟨rfl, rfl⟩
  go_wp2_with fail
  go_region
  all_goals
    (try go_wp2_with fail)
    go_ret2
    exact ⟨rfl, (show Ext w9 _ from Below.drew (Ext.refl w9))⟩
set_option linter.unusedSimpArgs false in
set_option maxHeartbeats 4000000 in
theorem tokens_good (s : ByteArray) (W : Nat) (w : World) (hs : s.size ≤ 300000) (h1 : 1 ≤ W) (h2 : W ≤ 32768) :
    Calls Tryd.prog 29 #[.string s, .int .i64 (W : Int)] w fun e w' => ∃ (l : List Tk) (v : Value), e = .returned (.tuple #[v, .nilIface]) ∧ w'.ownsRow w.heap.size 57 3 v l.length (tkV l.length (tkl l)) ∧ TL s W (triesOf s) s.size l ∧ Ext w w' := by
  obtain ⟨i0, hi0, hz0, hz1, hz2⟩ := info_parts tokinf
  have hb : badB s (W : Int) = false := by unfold badB; exact decide_eq_false (by omega)
  have HB := Lib.hid (fun wz => mbad_any s (W : Int) wz (by unfold maxLen; omega))
  rw [hb] at HB
  clear hb
  obtain ⟨T, hT⟩ : ∃ T, triesOf s = T := ⟨_, rfl⟩
  have hTl : T ≤ 300000 := by rw [← hT]; unfold triesOf; split <;> omega
  rw [hT]
  have HT := Lib.hid hT
  clear hT
  go_enter Tryd.func29, Tryd.ntmps29
  go_wp2_with fail
  refine (HB.out _).mono ?_
  rintro e w9 ⟨rfl, rfl⟩
  go_upto_if 21 with fail
  go_cut [6] (fun s6 wx => s6 = .int .i64 (T : Int) ∧ w9 = wx)
  case first =>
    by_cases q : 3000 < s.size
    · have t1 : decide ((3000 : Int) < (s.size : Int)) = true := decide_eq_true (by omega)
      have hTT : T = 64 := by rw [← HT.out]; unfold triesOf; rw [if_pos q]
      go_wp2_with fail
      go_meet
      exact ⟨by rw [hTT]; rfl, rfl⟩
    · have t1 : decide ((3000 : Int) < (s.size : Int)) = false := decide_eq_false (by omega)
      have hTT : T = s.size := by rw [← HT.out]; unfold triesOf; rw [if_neg q]
      go_wp2_with fail
      go_meet
      exact ⟨by rw [hTT], rfl⟩
  case rest =>
    obtain ⟨rfl, rfl⟩ := hcut
    go_wp2_with fail
    refine (newFinder_any s (W : Int) (T : Int) _ (by omega)).mono ?_
    rintro e w1 ⟨B, mp, ab, rfl, hF, hX, q1, q2, q3⟩
    have hTS : TS w9 w1 w1.heap.size B mp ab s W T 0 (.slice none 0 0) [] := ⟨hX, hF, World.ownsRow_nil _ _ _ _, q2, q3, ⟨hF.bk.lt, hF.mm.lt, hF.al⟩, Nat.le_refl _, hX.size⟩
    have HS := Lib.hid hTS
    obtain ⟨base, hbs⟩ : ∃ z, w1.heap.size = z := ⟨_, rfl⟩
    rw [hbs] at HS
    clear hF hX q1 q2 q3 hTS hbs
    go_wp2_with fail
    go_loopw [8, 9] (fun v k wr => ∃ (a : Nat) (l : List Tk), k = .int .i64 (a : Int) ∧ Hid (TL s W T a l) ∧ Hid (TS w9 wr base B mp ab s W T (min a (s.size - 2)) v l)) (fun _ k _ => s.size - (intOf k).toNat)
    case atStart => exact ⟨0, [], rfl, Lib.hid (TL.nil _ _ _), by rw [Nat.zero_min]; exact HS⟩
    case round =>
      clear HS
      obtain ⟨a, l, rfl, HL, HS⟩ := hrel
      have hal := HL.out.le
      have hlf := HL.out.few
      obtain ⟨xo, co, rfl⟩ := row_sl HS.out.row
      by_cases hlt : a < s.size
      · have HLG : Hid (∀ wz, Ext wr wz → Calls Tryd.prog 57 #[.pointer (some ⟨B, 0, none⟩), .int .i64 (a : Int)] wz fun e w' => ∃ m d : Nat, e = .returned (.tuple #[.int .i64 (m : Int), .int .i64 (d : Int)]) ∧ Mt.Good (byt s) s.size W a m d ∧ (s.size ≤ T → Mt.Long (byt s) s.size W a m d) ∧ Ext wz w') := Lib.hid (fun wz hz => by
          by_cases h3 : a + 3 ≤ s.size
          · have hq := (HS.out.st.ext hz)
            rw [show min a (s.size - 2) = a by omega] at hq
            exact longest_yes B mp ab a W T s wz hq h3 (by omega) (by omega) (by omega)
          · refine (longest_no B mp ab a _ s _ _ wz (HS.out.st.ext hz) (by omega) (by omega) (by omega)).mono ?_
            rintro e w5 ⟨rfl, rfl⟩
            exact ⟨0, 0, rfl, Mt.Good.edge _ _ _ _, fun _ => Mt.Long.edge _ _ _ _ (by omega), Ext.refl _⟩)
        go_wp2_with fail
        refine (HLG.out _ (Ext.refl _)).mono ?_
        rintro e w3 ⟨m, d, rfl, hg, hl, hx⟩
        have HG := Lib.hid (And.intro hg hl)
        have HS3 := Lib.hid (HS.out.step hx)
        have hml : m ≤ 258 := by rcases Nat.eq_zero_or_pos m with q | q; (omega); exact (hg.one (by omega)).most
        have hdl : d ≤ 32768 := by rcases Nat.eq_zero_or_pos m with q | q; (have := hg.zero q; omega); have := (hg.one (by omega)).win; omega
        have hm3 : m ≠ 0 → 3 ≤ m := fun q => (hg.one q).three
        have HN := Lib.hid (HL.out.more hlt (by omega) h2 hg hl)
        clear hl hx hg HS HLG
        obtain ⟨y, hy⟩ : ∃ z, (s[a]'hlt).toNat = z := ⟨_, rfl⟩
        have HBy : Hid (byt s a = y) := Lib.hid ((byt_at s a hlt).trans hy)
        have hyI : (((s[a]'hlt).toNat : Nat) : Int) = (y : Int) := by rw [hy]
        have hyl : y < 256 := by rw [← hy]; exact UInt8.toNat_lt _
        clear hy
        have HTK : Hid (tokAt s a m d = if m = 0 then ⟨s.data.toList.getD a 0, 0, 0⟩ else ⟨0, m, d⟩) := Lib.hid rfl
        obtain ⟨t, ht⟩ : ∃ t, tokAt s a m d = t := ⟨_, rfl⟩
        rw [ht] at HTK HN
        clear ht
        obtain ⟨M, hM⟩ : ∃ M, (if m = 0 then 1 else m) = M := ⟨_, rfl⟩
        rw [hM] at HN
        have HM := Lib.hid hM
        clear hM
        go_upto_if 41 with fail
        go_cut [12] (fun s12 wx => s12 = .pointer (some ⟨w3.heap.size, 0, none⟩) ∧ Hid (Ext w3 wx) ∧ Hid (Bk wx w3.heap.size #[.int .u8 (t.b.toNat : Int), .int .i64 t.l, .int .i64 t.d]))
        case first =>
          by_cases hm : m = 0
          · subst hm
            have t1 : decide ((3 : Int) ≤ ((0 : Nat) : Int)) = false := by decide
            have hlit : ¬ (3 : Int) ≤ 0 := by decide
            rw [if_pos rfl] at HTK
            have hyb : ((s.data.toList.getD a 0).toNat : Int) = (y : Int) := by have := HBy.out; unfold byt at this; omega
            go_wp2_with fail
            go_meet
            refine ⟨rfl, Lib.hid ((Ext.refl _).alloc _), Lib.hid ?_⟩
            rw [HTK.out]
            show Bk _ _ #[.int .u8 ((s.data.toList.getD a 0).toNat : Int), .int .i64 0, .int .i64 0]
            rw [hyb]
            exact Bk.at rfl
          · have h3m := hm3 hm
            have t1 : decide ((3 : Int) ≤ (m : Int)) = true := decide_eq_true (by omega)
            rw [if_neg hm] at HTK
            go_wp2_with fail
            go_meet
            refine ⟨rfl, Lib.hid ((Ext.refl _).alloc _), Lib.hid ?_⟩
            rw [HTK.out]
            exact Bk.at rfl
        case rest =>
          obtain ⟨rfl, HX4, HB4⟩ := hcut
          have HS4 := Lib.hid (HS3.out.step HX4.out)
          have hTl2 : t.l = (m : Int) := by rw [HTK.out]; split; (rename_i q; subst q; rfl); rfl
          have hMd : (m = 0 ∧ M = 1) ∨ (3 ≤ m ∧ M = m) := by have := HM.out; by_cases q : m = 0; (rw [if_pos q] at this; exact .inl ⟨q, this.symm⟩); (rw [if_neg q] at this; exact .inr ⟨hm3 q, this.symm⟩)
          rw [hTl2] at HB4
          obtain ⟨tb, htb⟩ : ∃ z : Nat, t.b.toNat = z := ⟨_, rfl⟩
          obtain ⟨td, htd⟩ : ∃ z : Int, t.d = z := ⟨_, rfl⟩
          obtain ⟨tB, htB⟩ : ∃ z, w3.heap.size = z := ⟨_, rfl⟩
          have HTB : Hid (∀ k, (Value.slice xo l.length co).ownBlock = some k → k < w3.heap.size) := Lib.hid (fun k e => (HS3.out.row.lt k e).2)
          rw [htb, htd, htB] at HB4
          rw [htB] at HTB ⊢
          have HTT := Lib.hid (And.intro htb (And.intro htd hTl2))
          clear htb htd htB hTl2 HX4 HS3 HTK HG
          have k0 := HB4.out.cell 0
          have k1 := HB4.out.cell 1
          have k2 := HB4.out.cell 2
          have hzb := HS4.out.bw
          obtain ⟨n0, hn0⟩ : ∃ n, l.length = n := ⟨_, rfl⟩
          have hn0l : n0 ≤ 300000 := by omega
          have HNL := Lib.hid hn0
          have HRow := Lib.hid HS4.out.row
          rw [hn0] at HRow HS4 HTB ⊢
          go_wp2_with (at_builtin; refine wpList_append_own_at _ rfl _ _ 46 rfl base 57 i0 _ 3 24 Tryd.underlying46 hi0 hz0 hz1 hz2 rfl (by decide) _ _ _ rfl (HRow.out.alloc _) ⟨wc.heap.size, 0, none⟩ 1 1 [.int .u8 (tb : Int), .int .i64 (m : Int), .int .i64 td] rfl rfl ?c1 ?c2 ?c3 ?c4 ?c5 ?_)
          case c1 =>
            intro j u hu
            rw [add_plain]
            exact (Bk.at (w := wc) rfl).cell j |>.trans (by simpa using hu)
          case c2 => intro u hu; simp at hu; rcases hu with hu | hu | hu <;> (subst hu; rfl)
          case c3 => unfold maxLen; omega
          case c4 => omega
          case c5 => rw [World.size_alloc]; omega
          intro v7 w7 hown hgrow _ hat
          have K7 := (Keeps.alloc (Ext.keeps (S := fun i => (Value.slice xo n0 co).ownBlock = some i) (Ext.refl wc)) (.cells #[.int .u8 (tb : Int), .int .i64 (m : Int), .int .i64 td] 57)).trans (Keeps.grown hgrow) (fun _ _ q => q)
          have O7 : w7.ownsRow base 57 3 v7 (l ++ [t]).length (tkV (l ++ [t]).length (tkl (l ++ [t]))) := by
            rw [tkV_push, List.length_append, List.length_singleton, HNL.out, HTT.out.1, HTT.out.2.1, HTT.out.2.2]
            exact hown
          have HB7 := Lib.hid (HB4.out.keeps K7 (fun e => by have := HTB.out _ e; omega))
          have HS7 := Lib.hid (TS.grow (t := t) HS4.out K7 O7)
          clear hown hgrow hat K7 O7 HB4 HS4 HRow k0 k1 k2
          have k1 := HB7.out.cell 1
          have hmx : (if (1 : Int) < (m : Int) then (m : Int) else 1) = (M : Int) := by rcases hMd with q | q; (rw [if_neg (by omega)]; omega); (rw [if_pos (by omega)]; omega)
          have haM := HN.out.le
          go_wp2_with fail
          clear hmx k1
          go_loopw [9, 52] (fun k i wr => ∃ j A : Nat, A = a + j ∧ k = .int .i64 (A : Int) ∧ i = .int .i64 (j : Int) ∧ j ≤ M ∧ Hid (TS w9 wr base B mp ab s W T (min A (s.size - 2)) v7 (l ++ [t]))) (fun _ i _ => M - (intOf i).toNat)
          case atStart => exact ⟨0, a, rfl, rfl, rfl, by omega, HS7⟩
          case round =>
            clear HS7
            obtain ⟨j, A, hA, rfl, rfl, hjM, HS⟩ := hrel
            by_cases hj : j < M
            · have hAs : A < s.size := by omega
              have hA1 : A + 1 = a + (j + 1) := by omega
              have HA1 := Lib.hid hA1
              clear hA hA1
              have HPT : Hid (∀ wz, Ext wr wz → Calls Tryd.prog 58 #[.pointer (some ⟨B, 0, none⟩), .int .i64 (A : Int)] wz fun e w' => e = .returned (.tuple #[]) ∧ FSt w' B mp ab s (W : Int) (T : Int) (min (A + 1) (s.size - 2)) ∧ Keeps (fun k => k = mp ∨ k = ab) wz w') := Lib.hid (fun wz hz => by
                by_cases h3 : A + 3 ≤ s.size
                · have hq := (HS.out.st.ext hz)
                  rw [show min A (s.size - 2) = A by omega] at hq
                  rw [show min (A + 1) (s.size - 2) = A + 1 by omega]
                  exact put_yes B mp ab A s _ _ wz hq h3 (by omega)
                · refine (put_no B mp ab A _ s _ _ wz (HS.out.st.ext hz) (by omega) (by omega) (by omega)).mono ?_
                  rintro e w5 ⟨rfl, rfl⟩
                  refine ⟨rfl, ?_, Keeps.refl _ _⟩
                  have hq := (HS.out.st.ext hz)
                  rwa [show min A (s.size - 2) = min (A + 1) (s.size - 2) by omega] at hq)
              go_wp2_with fail
              refine (HPT.out _ (Ext.refl _)).mono ?_
              rintro e w5 ⟨rfl, hq1, hq2⟩
              have HSN := Lib.hid (HS.out.put hq1 hq2)
              clear hq1 hq2 HPT HS
              go_wp2_with fail
              go_roundw
              case rel => exact ⟨j + 1, A + 1, HA1.out, by go_num, by go_num, by omega, HSN⟩
              case measure => simp [intOf]; omega
            · obtain rfl : j = M := by omega
              have HA := Lib.hid hA
              clear hA
              go_wp2_with fail
              go_roundw
              case rel => exact ⟨A, l ++ [t], rfl, by rw [HA.out]; exact HN, HS⟩
              case measure => have := HA.out; simp [intOf]; omega
      · obtain rfl : a = s.size := by omega
        go_wp2_with fail
        go_ret2
        exact ⟨l, _, rfl, owns_b HS.out.row HS.out.b0, HL.out, HS.out.ext⟩
end Go.Proofs.YtdeiolagnheihaaDoor
