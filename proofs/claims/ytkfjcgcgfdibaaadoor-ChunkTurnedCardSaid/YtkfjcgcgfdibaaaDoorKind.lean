/- Chunks' small functions: is a text a kind; four bytes of a number, and back. -/
import Derived.Test.YtkfjcgcgfdibaaaDoorTable
import Derived.Test.YtkfjcgcgfdibaaaDoorOpen
namespace Go.Proofs.YtkfjcgcgfdibaaaDoor
open Go.RowKit
set_option maxRecDepth 100000
def letterB (b : UInt8) : Bool := decide (97 ≤ (b ||| 32).toNat) && decide ((b ||| 32).toNat ≤ 122)
def kindB (l : List UInt8) : Bool := decide (l.length = 4) && l.all letterB
theorem all_take {l : List UInt8} {p : UInt8 → Bool} {k : Nat} (h : (l.take k).all p = false) : l.all p = false := by
  rw [← List.take_append_drop k l, List.all_append, h]; rfl
theorem all_take_succ {l : List UInt8} {p : UInt8 → Bool} {k : Nat} (hk : k < l.length) : (l.take (k + 1)).all p = ((l.take k).all p && p l[k]) := by
  rw [List.take_add_one, List.getElem?_eq_getElem hk, List.all_append]; simp
theorem or32_fin : ∀ n : Fin 256, bits BinOp.or IntKind.u8 (n.val : Int) 32 = ((n.val ||| 32 : Nat) : Int) := by decide +kernel
theorem or32 (b : UInt8) : bits BinOp.or IntKind.u8 (b.toNat : Int) 32 = ((b ||| 32).toNat : Int) := by
  have h := or32_fin ⟨b.toNat, b.toNat_lt⟩
  rw [UInt8.toNat_or]
  exact h
theorem letter_two : ∀ n : Fin 256, (decide (97 ≤ (n.val ||| 32)) && decide ((n.val ||| 32) ≤ 122)) = ((decide (97 ≤ n.val) && decide (n.val ≤ 122)) || (decide (65 ≤ n.val) && decide (n.val ≤ 90))) := by decide +kernel
theorem letterB_two (b : UInt8) : letterB b = ((decide (97 ≤ b.toNat) && decide (b.toNat ≤ 122)) || (decide (65 ≤ b.toNat) && decide (b.toNat ≤ 90))) := by
  have h := letter_two ⟨b.toNat, b.toNat_lt⟩
  unfold letterB
  rw [UInt8.toNat_or]
  exact h
theorem bytes_len (s : ByteArray) : s.data.toList.length = s.size := rfl
theorem isKind_any (s : ByteArray) (w : World) (hs : s.size ≤ maxLen) :
    Calls Tryd.prog 80 #[.string s] w fun e w' => e = .returned (.bool (kindB s.data.toList)) ∧ w = w' := by
  unfold maxLen at hs
  by_cases h4 : s.size = 4
  · have t4 : ((s.size : Int) == 4) = true := beq_iff_eq.2 (by omega)
    go_enter Tryd.func80, Tryd.ntmps80
    go_wp2_with fail
    go_loop [3, 4] (fun o c => ∃ k : Nat, k ≤ s.size ∧ c = .int .i64 k ∧ o = .bool ((s.data.toList.take k).all letterB)) (fun _ c => s.size - (intOf c).toNat)
    case atStart => exact ⟨0, by omega, rfl, by rw [List.take_zero]; rfl⟩
    case round =>
      obtain ⟨k, hk, rfl, rfl⟩ := hrel
      obtain ⟨o, ho⟩ : ∃ o, (s.data.toList.take k).all letterB = o := ⟨_, rfl⟩
      rw [ho]
      by_cases hlt : k < s.size
      · have t0 : decide ((k : Int) < (s.size : Int)) = true := decide_eq_true (by omega)
        cases o with
        | true =>
          have hb : (s.data.toList.take (k + 1)).all letterB = letterB s[k] := by
            rw [all_take_succ (by rw [bytes_len]; exact hlt), ho]; rfl
          have e1 := or32 s[k]
          obtain ⟨b, hbb⟩ : ∃ b, s[k] = b := ⟨_, rfl⟩
          rw [hbb] at hb e1
          obtain ⟨m, hm⟩ : ∃ m, (b ||| 32).toNat = m := ⟨_, rfl⟩
          have hlet : letterB b = (decide (97 ≤ m) && decide (m ≤ 122)) := by unfold letterB; rw [hm]
          rw [hm] at e1
          have e2 : bits BinOp.or IntKind.u8 (s[k].toNat : Int) 32 = (m : Int) := by rw [hbb]; exact e1
          by_cases q1 : 97 ≤ m
          · have t1 : decide ((97 : Int) ≤ (m : Int)) = true := decide_eq_true (by omega)
            go_wp2_with fail
            go_round
            case rel => exact ⟨k + 1, by omega, by go_num, by rw [hb, hlet, decide_eq_true q1, Bool.true_and]; exact congrArg Value.bool (by rw [Bool.eq_iff_iff, decide_eq_true_iff, decide_eq_true_iff]; omega)⟩
            case measure => simp [intOf]; omega
          · have t1 : decide ((97 : Int) ≤ (m : Int)) = false := decide_eq_false (by omega)
            go_wp2_with fail
            go_round
            case rel => exact ⟨k + 1, by omega, by go_num, by rw [hb, hlet, decide_eq_false q1]; rfl⟩
            case measure => simp [intOf]; omega
        | false =>
          go_wp2_with fail
          go_ret
          exact ⟨ret_bool (by unfold kindB; rw [all_take ho, Bool.and_false]), rfl⟩
      · obtain rfl : k = s.size := by omega
        have t0 : decide ((s.size : Int) < (s.size : Int)) = false := decide_eq_false (by omega)
        rw [List.take_of_length_le (by rw [bytes_len]; omega)] at ho
        go_wp2_with fail
        go_ret
        exact ⟨ret_bool (by unfold kindB; rw [ho, bytes_len, decide_eq_true h4, Bool.true_and]), rfl⟩
  · have t4 : ((s.size : Int) == 4) = false := beq_eq_false_iff_ne.2 (by omega)
    go_enter Tryd.func80, Tryd.ntmps80
    go_wp2_with fail
    go_loop [3, 4] (fun o c => c = .int .i64 0 ∧ o = .bool false) (fun _ c => 0)
    case atStart => exact ⟨rfl, rfl⟩
    case round =>
      obtain ⟨rfl, rfl⟩ := hrel
      by_cases hlt : 0 < s.size
      · have t0 : decide ((0 : Int) < (s.size : Int)) = true := decide_eq_true (by omega)
        go_wp2_with fail
        go_ret
        exact ⟨ret_bool (by unfold kindB; rw [bytes_len, decide_eq_false h4]; rfl), rfl⟩
      · have t0 : decide ((0 : Int) < (s.size : Int)) = false := decide_eq_false (by omega)
        go_wp2_with fail
        go_ret
        exact ⟨ret_bool (by unfold kindB; rw [bytes_len, decide_eq_false h4]; rfl), rfl⟩
theorem refKind_any (s : ByteArray) (w : World) :
    Calls Tryd.prog 88 #[.string s] w fun e w' => e = .returned (.bool (kindB s.data.toList)) ∧ w = w' := by
  by_cases h4 : s.size = 4
  · have t4 : ((s.size : Int) == 4) = true := beq_iff_eq.2 (by omega)
    go_enter Tryd.func88, Tryd.ntmps88
    go_wp2_with fail
    go_loop [3] (fun c => ∃ k : Nat, k ≤ 4 ∧ c = .int .i64 k ∧ (s.data.toList.take k).all letterB = true) (fun c => 4 - (intOf c).toNat)
    case atStart => exact ⟨0, by omega, rfl, by rw [List.take_zero]; rfl⟩
    case round =>
      obtain ⟨k, hk, rfl, ho⟩ := hrel
      by_cases hlt : k < 4
      · have hks : k < s.size := by omega
        have t0 : decide ((k : Int) < 4) = true := decide_eq_true (by omega)
        have hb : (s.data.toList.take (k + 1)).all letterB = letterB s[k] := by
          rw [all_take_succ (by rw [bytes_len]; exact hks), ho]; rfl
        have hlet := letterB_two s[k]
        obtain ⟨m, hm⟩ : ∃ m, s[k].toNat = m := ⟨_, rfl⟩
        rw [hm] at hlet
        have hm2 : (s[k].toNat : Int) = (m : Int) := congrArg _ hm
        have no : letterB s[k] = false → kindB s.data.toList = false := fun h => by
          unfold kindB; rw [all_take (hb.trans h), Bool.and_false]
        have NO := Lib.hid no
        have HB := Lib.hid hb
        have HL := Lib.hid hlet
        clear no hb hlet
        by_cases q1 : 97 ≤ m <;> by_cases q2 : m ≤ 122 <;> by_cases q3 : 65 ≤ m <;> by_cases q4 : m ≤ 90 <;> first
          | (exfalso; omega)
          | (have t1 : decide ((97 : Int) ≤ (m : Int)) = decide (97 ≤ m) := by rw [Bool.eq_iff_iff, decide_eq_true_iff, decide_eq_true_iff]; omega
             have t2 : decide ((m : Int) ≤ 122) = decide (m ≤ 122) := by rw [Bool.eq_iff_iff, decide_eq_true_iff, decide_eq_true_iff]; omega
             have t3 : decide ((65 : Int) ≤ (m : Int)) = decide (65 ≤ m) := by rw [Bool.eq_iff_iff, decide_eq_true_iff, decide_eq_true_iff]; omega
             have t5 : decide ((m : Int) ≤ 90) = decide (m ≤ 90) := by rw [Bool.eq_iff_iff, decide_eq_true_iff, decide_eq_true_iff]; omega
             simp only [q1, q2, q3, q4, decide_true, decide_false] at t1 t2 t3 t5
             clear hm
             go_wp2_with fail
             first
               | (go_round
                  case rel => exact ⟨k + 1, by omega, by go_num, by rw [HB.out, HL.out]; simp [q1, q2, q3, q4]⟩
                  case measure => simp [intOf]; omega)
               | (go_ret
                  exact ⟨ret_bool (NO.out (by rw [HL.out]; simp [q1, q2, q3, q4])).symm, rfl⟩))
      · obtain rfl : k = 4 := by omega
        rw [List.take_of_length_le (by rw [bytes_len]; omega)] at ho
        go_wp2_with fail
        go_ret
        exact ⟨ret_bool (by unfold kindB; rw [ho, bytes_len, decide_eq_true h4]; rfl), rfl⟩
  · have t4 : ((s.size : Int) == 4) = false := beq_eq_false_iff_ne.2 (by omega)
    go_enter Tryd.func88, Tryd.ntmps88
    go_wp2_with fail
    go_ret
    exact ⟨ret_bool (by unfold kindB; rw [bytes_len, decide_eq_false h4]; rfl), rfl⟩
end Go.Proofs.YtkfjcgcgfdibaaaDoor
