/- HuffApart: no word begins another one. -/
import Derived.Test.YtkddbhngffbljaaDoorCodes
import Derived.Test.YtkddbhngffbljaaDoorOpenI
import Derived.Laws.AppendOwnNone
namespace Go.Proofs.YtkddbhngffbljaaDoor
open Go.RowKit Go.ChangeShapes Go.WideShapes
set_option maxRecDepth 100000
theorem i64info : (Tryd.prog.info? 3).map (fun i => (i.zero, i.size, i.bytes)) = some (some (.int .i64 0), 1, 8) := by kernel_rfl
def intsV (len : Nat) (f : Nat → Int) : List Value := (List.range len).map fun i => Value.int .i64 (f i)
theorem intsV_get (len : Nat) (f : Nat → Int) (i : Nat) (h : i < len) : (intsV len f)[i]? = some (.int .i64 (f i)) := by simp [intsV, h]
theorem Ints.of_own {w : World} {base : Nat} {v : Value} {len : Nat} {f : Nat → Int} (h : w.ownsRow base 3 1 v len (intsV len f)) (hb : ∀ i, i < len → -9223372036854775808 ≤ f i ∧ f i ≤ 9223372036854775807) :
    ∃ x cap, v = .slice x len cap ∧ Ints w x len f := by
  rcases ownsRow_slice h with ⟨rfl, h0⟩ | ⟨g, cap, rfl⟩
  · subst h0; exact ⟨none, 0, rfl, fun _ => rfl, fun a h => by cases h⟩
  · refine ⟨some ⟨g, 0, none⟩, cap, rfl, (fun h => by cases h), fun a ha i hi => ?_⟩
    injection ha with ha; subst ha
    rw [add_plain, h.cellAt i (by omega), intsV_get len f i hi]
    exact ⟨rfl, hb i hi⟩
def IntsV (w : World) (v : Value) (len : Nat) (f : Nat → Int) : Prop := ∃ y c, v = .slice y len c ∧ Ints w y len f
theorem ints_calls (x : Option Addr) (len cap : Nat) (f : Nat → Int) (w : World) (hx : Ints w x len f) (hl : len ≤ 1099511627776) (hx0 : x = none → cap = 0) :
    Calls Tryd.prog 34 #[.slice x len cap] w fun e w' => (∃ v, e = .returned v ∧ IntsV w' v len f) ∧ Ext w w' := by
  obtain ⟨i0, hi, hz0, hz1, hz2⟩ := info_parts i64info
  cases x with
  | none =>
    obtain rfl := hx.1 rfl
    obtain rfl := hx0 rfl
    go_enter Tryd.func34, Tryd.ntmps34
    go_wp2_with (at_builtin; refine wpList_append_own_none rfl _ _ 45 rfl 0 3 i0 1 Tryd.underlying45 hi (.slice none 0 0) 0 [] rfl (World.ownsRow_nil _ _ _ _) rfl ?_)
    go_ret
    exact ⟨⟨_, rfl, none, 0, rfl, hx⟩, Below.refl _ _⟩
  | some a =>
    have HX := Lib.hid hx
    have hcell : ∀ j u, (intsV len f)[j]? = some u → w.cell? (a.add j) = some u := by
      intro j u hj
      have hj' : j < len := by have := (List.getElem?_eq_some_iff.1 hj).1; simpa [intsV] using this
      rw [intsV_get len f j hj'] at hj
      rw [(hx.2 a rfl j hj').1, hj]
    have HC := Lib.hid hcell
    clear hx hcell
    go_enter Tryd.func34, Tryd.ntmps34
    go_wp2_with (at_builtin; refine wpList_append_own _ rfl _ _ 45 rfl w.heap.size 3 i0 (.int .i64 0) 1 8 Tryd.underlying45 hi hz0 hz1 hz2 rfl (by decide) (.slice none 0 0) 0 [] rfl (World.ownsRow_nil _ _ _ _) a len cap (intsV len f) rfl ?c0 HC.out ?c2 ?c3 ?c4 ?c5 ?_)
    case c0 => simp [intsV]
    case c2 => intro u hu; simp [intsV] at hu; obtain ⟨i, _, rfl⟩ := hu; rfl
    case c3 => unfold maxLen; omega
    case c4 => omega
    case c5 => simp
    intro v' w' hown hgrow _
    obtain ⟨y, c, rfl, hy⟩ := Ints.of_own hown (fun i hi => (HX.out.2 a rfl i hi).2)
    have hE : Ext w w' := (Keeps.grown hgrow).below (Nat.le_refl _) (fun k _ q => by cases q)
    have HY := Lib.hid hy
    have HE := Lib.hid hE
    clear hown hgrow hy hE
    go_wp2_with fail
    go_ret
    exact ⟨⟨_, rfl, y, c, rfl, HY.out⟩, HE.out⟩
structure Sents (w : World) : Prop where
  bound : ∃ E, w.cell? ⟨1, 0, none⟩ = some (.iface 101 (.pointer (some E)))
  shape : ∃ E, w.cell? ⟨2, 0, none⟩ = some (.iface 101 (.pointer (some E)))
theorem Sents.ext {w w' : World} (h : Sents w) (hE : Ext w w') : Sents w' := by
  obtain ⟨⟨a, ha⟩, ⟨b, hb⟩⟩ := h
  exact ⟨⟨a, (hE.cell (p := ⟨1, 0, none⟩) (World.block_lt_of_cell? w _ ha)).trans ha⟩, ⟨b, (hE.cell (p := ⟨2, 0, none⟩) (World.block_lt_of_cell? w _ hb)).trans hb⟩⟩
theorem two_any (w : World) (hS : Sents w) : Calls Tryd.prog 32 #[] w fun e w' => e = .returned (.bool true) ∧ Ext w w' := by
  have hx : Ints (w.alloc (.cells #[.int .i64 1, .int .i64 1] 3)) (some ⟨w.heap.size, 0, none⟩) 2 (fun _ => 1) := by
    refine ⟨(fun h => by cases h), fun a ha i hi => ?_⟩
    injection ha with ha; subst ha
    rw [add_plain, World.cell?_alloc_at _ _ _ _ rfl]
    match i, hi with
    | 0, _ => exact ⟨rfl, by decide, by decide⟩
    | 1, _ => exact ⟨rfl, by decide, by decide⟩
  have hS2 := hS.ext ((Ext.refl w).alloc (.cells #[.int .i64 1, .int .i64 1] 3))
  obtain ⟨⟨E1, h1⟩, ⟨E2, h2⟩⟩ := hS2
  have HE : Hid (Ext w (w.alloc (.cells #[.int .i64 1, .int .i64 1] 3))) := Lib.hid ((Ext.refl w).alloc _)
  have HX := Lib.hid hx
  have H1 := Lib.hid h1
  have H2 := Lib.hid h2
  clear hx h1 h2 hS
  go_enter Tryd.func32, Tryd.ntmps32
  go_wp2_with fail
  refine (codes_good _ 2 2 (fun _ => 1) _ HX.out (by decide) ⟨by decide, fun j _ => ⟨(by decide : (0 : Int) ≤ 1), (by decide : (1 : Int) ≤ 15)⟩⟩ (.inr (.inr (by decide +kernel))) _ _ H1.out H2.out).mono ?_
  rintro e w2 ⟨hE, B, hB, rfl, hC⟩
  have c0 : w2.cell? ⟨B, 0, none⟩ = some (.int .u32 0) := (hC 0 (by decide)).1
  have c1 : w2.cell? ⟨B, 1, none⟩ = some (.int .u32 1) := (hC 1 (by decide)).1
  clear hC
  have HE2 := Lib.hid (HE.out.trans hE)
  clear hE
  go_wp2_with fail
  go_ret
  exact ⟨rfl, HE2.out⟩
theorem first_ge (f : Nat → Int) (len n : Nat) (h1 : 1 ≤ n) : ∀ d, 2 ^ (d + 1) * (first f len n + many f n len) ≤ first f len (n + d + 1) := by
  intro d
  induction d with
  | zero => rw [Nat.add_zero, first_succ f len n h1, Nat.mul_comm]; exact Nat.le_refl _
  | succ d ih =>
    rw [show n + (d + 1) + 1 = (n + d + 1) + 1 by omega, first_succ f len (n + d + 1) (by omega), Nat.pow_succ, Nat.mul_comm (2 ^ (d + 1)) 2, Nat.mul_assoc, Nat.mul_comm 2]
    exact Nat.mul_le_mul_right _ (by omega)
/-- no word begins another one -/
theorem apart (f : Nat → Int) (len : Nat) (i k : Nat) (hi : i < len) (hik : i ≠ k) (h0 : 0 < f i) (hle : f i ≤ f k) : word f len k / 2 ^ (f k - f i).toNat ≠ word f len i := by
  obtain ⟨n, hn⟩ : ∃ n : Nat, f i = n := ⟨(f i).toNat, by omega⟩
  obtain ⟨m, hm⟩ : ∃ m : Nat, f k = m := ⟨(f k).toNat, by omega⟩
  have hwi : word f len i = first f len n + many f n i := by unfold word; rw [if_pos h0, hn]; rfl
  have hwk : word f len k = first f len m + many f m k := by unfold word; rw [if_pos (by omega), hm]; rfl
  rw [hwi, hwk, show (f k - f i).toNat = m - n by omega]
  rcases Nat.lt_or_ge n m with h | h
  · obtain ⟨d, rfl⟩ : ∃ d, m = n + d + 1 := ⟨m - n - 1, by omega⟩
    have h1 := first_ge f len n (by omega) d
    have h2 := many_mono f n len (i + 1) hi
    rw [many_at f n i hn] at h2
    rw [show n + d + 1 - n = d + 1 by omega]
    have h3 : first f len n + many f n len ≤ (first f len (n + d + 1) + many f (n + d + 1) k) / 2 ^ (d + 1) := by
      rw [Nat.le_div_iff_mul_le (Nat.two_pow_pos _), Nat.mul_comm]; omega
    omega
  · obtain rfl : m = n := by omega
    rw [Nat.sub_self, Nat.pow_zero, Nat.div_one]
    rcases Nat.lt_or_ge i k with q | q
    · have h2 := many_mono f m k (i + 1) q
      rw [many_at f m i hn] at h2; omega
    · have h2 := many_mono f m i (k + 1) (by omega)
      rw [many_at f m k hm] at h2; omega
theorem apart_out (x : Option Addr) (len cap : Nat) (w : World) (hS : Sents w) (h : 100 < len) (hl : len ≤ maxLen) :
    Calls Tryd.prog 6 #[.slice x len cap] w fun e w' => e = .returned (.bool true) ∧ Ext w w' := by
  unfold maxLen at hl
  go_enter Tryd.func6, Tryd.ntmps6
  go_wp2_with fail
  refine (two_any _ hS).mono ?_
  rintro e w2 ⟨rfl, h2⟩
  go_wp2_with fail
  go_ret
  exact ⟨rfl, h2⟩
theorem apart_in (x : Option Addr) (len cap : Nat) (f : Nat → Int) (w : World) (hS : Sents w) (h : len ≤ 100) (hx : Ints w x len f) (hx0 : x = none → cap = 0) :
    Calls Tryd.prog 6 #[.slice x len cap] w fun e w' => e = .returned (.bool true) ∧ Ext w w' := by
  have HX := Lib.hid hx
  have HS := Lib.hid hS
  have HX0 := Lib.hid hx0
  clear hx hS hx0
  go_enter Tryd.func6, Tryd.ntmps6
  go_wp2_with fail
  refine (two_any _ HS.out).mono ?_
  rintro e w2 ⟨rfl, h2⟩
  have HX2 := Lib.hid (HX.out.ext h2)
  have HS2 := Lib.hid (HS.out.ext h2)
  have H2 := Lib.hid h2
  clear h2
  go_wp2_with fail
  refine (ints_calls x len cap f w2 HX2.out (by omega) HX0.out).mono ?_
  rintro e w3 ⟨⟨v, rfl, y, c, rfl, hy⟩, h3⟩
  have HY := Lib.hid hy
  have HS3 := Lib.hid (HS2.out.ext h3)
  have H3 := Lib.hid (H2.out.trans h3)
  clear hy h3
  by_cases hb : inBounds f len ∧ complete f len
  · have HB := Lib.hid hb
    clear hb
    obtain ⟨⟨E1, e1⟩, ⟨E2, e2⟩⟩ := HS3.out
    have HE1 := Lib.hid e1
    have HE2 := Lib.hid e2
    clear e1 e2
    go_wp2_with fail
    refine (codes_good y len c f w3 HY.out (by unfold maxLen; omega) HB.out.1 HB.out.2 _ _ HE1.out HE2.out).mono ?_
    rintro e w4 ⟨h4, B, hB, rfl, hC⟩
    have HC := Lib.hid hC
    have H4 := Lib.hid (H3.out.trans h4)
    clear hC h4 hB
    have HX4 := Lib.hid (HX.out.ext H4.out)
    go_wp2_with fail
    go_loopw [6, 7] (fun v _ wr => ∃ i m : Nat, i ≤ len ∧ v = .int .i64 i ∧ wr = w4.drewN m) (fun v _ _ => len - (intOf v).toNat)
    case atStart => exact ⟨0, 0, by omega, rfl, rfl⟩
    case round =>
      obtain ⟨i, m, hi, rfl, rfl⟩ := hrel
      by_cases hlt : i < len
      · go_wp2_with fail
        go_loopw [7] (fun v wr => ∃ k m : Nat, k ≤ len ∧ v = .int .i64 k ∧ wr = w4.drewN m) (fun v _ => len - (intOf v).toNat)
        case atStart => exact ⟨0, m, by omega, rfl, rfl⟩
        case round =>
          obtain ⟨k, m, hk, rfl, rfl⟩ := hrel
          by_cases hlk : k < len
          · by_cases hik : i = k
            · have t1 : ((i : Int) != (k : Int)) = false := by simp [hik]
              clear hik
              go_wp2_with fail
              go_quiet (fail)
              go_wp2_with fail
              exact ⟨⟨k + 1, _, by omega, by go_num, rfl⟩, by simp [intOf]; omega⟩
            · have t1 : ((i : Int) != (k : Int)) = true := by rw [bne_iff_ne]; omega
              obtain ⟨a, rfl⟩ : ∃ a, x = some a := by
                cases x with
                | none => have := HX4.out.1 rfl; omega
                | some a => exact ⟨a, rfl⟩
              obtain ⟨ci, i1, i2⟩ := HX4.out.2 a rfl i hlt
              by_cases h0 : 0 < f i
              · obtain ⟨ck, k1, k2⟩ := HX4.out.2 a rfl k hlk
                by_cases hle : f i ≤ f k
                · have di := (HC.out i hlt).1
                  have dk := (HC.out k hlk).1
                  obtain ⟨d, hd⟩ : ∃ d : Nat, f k - f i = d := ⟨(f k - f i).toNat, by omega⟩
                  have hne := apart f len i k hlt hik h0 hle
                  rw [hd] at hne
                  have t2 : ((word f len k : Int) / 2 ^ d == (word f len i : Int)) = false := by
                    rw [beq_eq_false_iff_ne, show (word f len k : Int) / 2 ^ d = ((word f len k / 2 ^ d : Nat) : Int) by simp]
                    intro e; exact hne (by simpa using Int.ofNat.inj e)
                  have d15 := (HB.out.1.2 k hlk).2
                  have HNE := Lib.hid hne
                  have hik2 := Lib.hid hik
                  clear hne hik
                  go_wp2_with fail
                  go_quiet (fail)
                  go_wp2_with fail
                  exact ⟨⟨k + 1, _, by omega, by go_num, rfl⟩, by simp [intOf]; omega⟩
                · have t3 : decide (f i ≤ f k) = false := decide_eq_false hle
                  clear hik
                  go_wp2_with fail
                  go_quiet (fail)
                  go_wp2_with fail
                  exact ⟨⟨k + 1, _, by omega, by go_num, rfl⟩, by simp [intOf]; omega⟩
              · have t3 : decide (0 < f i) = false := decide_eq_false h0
                clear hik
                go_wp2_with fail
                go_quiet (fail)
                go_wp2_with fail
                exact ⟨⟨k + 1, _, by omega, by go_num, rfl⟩, by simp [intOf]; omega⟩
          · obtain rfl : k = len := by omega
            go_wp2_with fail
            exact ⟨⟨i + 1, m, by omega, by go_num, rfl⟩, by simp [intOf]; omega⟩
      · obtain rfl : i = len := by omega
        go_wp2_with fail
        go_ret
        exact ⟨rfl, below_drewN H4.out m⟩
  · have HB := Lib.hid hb
    clear hb
    obtain ⟨⟨E1, e1⟩, ⟨E2, e2⟩⟩ := HS3.out
    have HE1 := Lib.hid e1
    have HE2 := Lib.hid e2
    clear e1 e2
    go_wp2_with fail
    refine (codes_bad y len c f w3 HY.out (by unfold maxLen; omega) _ _ HE1.out HE2.out HB.out).mono ?_
    rintro e w4 ⟨h4, q⟩
    have H4 := Lib.hid (H3.out.trans h4)
    clear h4
    rcases q with ⟨rfl, _⟩ | ⟨rfl, _⟩
    · go_wp2_with fail
      go_ret
      exact ⟨rfl, H4.out⟩
    · go_wp2_with fail
      go_ret
      exact ⟨rfl, H4.out⟩
theorem apart_any (x : Option Addr) (len cap : Nat) (f : Nat → Int) (w : World) (hS : Sents w) (hl : len ≤ maxLen) (hx : Ints w x len f) (hx0 : x = none → cap = 0) :
    Calls Tryd.prog 6 #[.slice x len cap] w fun e w' => e = .returned (.bool true) ∧ Ext w w' := by
  by_cases h : len ≤ 100
  · exact apart_in x len cap f w hS h hx hx0
  · exact apart_out x len cap w hS (by omega) hl
end Go.Proofs.YtkddbhngffbljaaDoor
