/- huff.Read, huff.Codes of lengths that are not right. -/
import Derived.Test.YtkddbhngffbljaaDoorRead
namespace Go.Proofs.YtkddbhngffbljaaDoor
open Go.RowKit
set_option maxRecDepth 100000
/-- of lengths that are not right: the error's number -/
theorem valid_no (x : Option Addr) (len cap : Nat) (f : Nat → Int) (w : World) (E : Nat → Addr) (hE : Errs w E) (hx : Ints w x len f) (hl : len ≤ maxLen) (h : ¬ (inBounds f len ∧ complete f len)) :
    Calls Tryd.prog 36 #[.slice x len cap] w fun e w' => (∃ k, k < 9 ∧ e = .returned (.iface 101 (.pointer (some (E k)))) ∧ vcode f len = (k : Int) + 1) ∧ Ext w w' := by
  refine (valid_calls x len cap f w hx hl _ _ (hE.var 1 (by decide)) (hE.var 2 (by decide))).mono ?_
  rintro e w2 ⟨h2, q | q | q⟩
  · exact absurd q.2 h
  · exact ⟨⟨1, by decide, q.1, by unfold vcode; rw [if_neg q.2]; rfl⟩, h2⟩
  · exact ⟨⟨2, by decide, q.1, by unfold vcode; rw [if_pos q.2.1, if_neg q.2.2]; rfl⟩, h2⟩
theorem read_no (x : Option Addr) (len cap : Nat) (f : Nat → Int) (w : World) (E : Nat → Addr) (hE : Errs w E) (hx : Ints w x len f) (hl : len ≤ maxLen) (h : ¬ (inBounds f len ∧ complete f len)) :
    Calls Tryd.prog 39 #[.slice x len cap] w fun e w' => (∃ k, k < 9 ∧ e = .returned (.tuple #[.pointer none, .iface 101 (.pointer (some (E k)))]) ∧ vcode f len = (k : Int) + 1) ∧ Ext w w' := by
  have HE := Lib.hid hE
  have HX := Lib.hid hx
  have HH := Lib.hid h
  clear hE hx h
  go_enter Tryd.func39, Tryd.ntmps39
  go_wp2_with fail
  refine (valid_no x len cap f w E HE.out HX.out hl HH.out).mono ?_
  rintro e w2 ⟨⟨k, hk, rfl, hv⟩, h2⟩
  have X2 := Lib.hid (h2)
  have HV := Lib.hid (hv)
  clear h2 hv
  go_wp2_with fail
  first | go_ret2 | (go_region; all_goals go_wp2_with fail; all_goals go_ret2)
  all_goals exact ⟨⟨k, hk, rfl, HV.out⟩, by first | exact X2.out | exact X2.out.drewN _ | exact X2.out.drew⟩
theorem codes_no (x : Option Addr) (len cap : Nat) (f : Nat → Int) (w : World) (E : Nat → Addr) (hE : Errs w E) (hx : Ints w x len f) (hl : len ≤ maxLen) (h : ¬ (inBounds f len ∧ complete f len)) :
    Calls Tryd.prog 33 #[.slice x len cap] w fun e w' => (∃ k, k < 9 ∧ e = .returned (.tuple #[.slice none 0 0, .iface 101 (.pointer (some (E k)))]) ∧ vcode f len = (k : Int) + 1) ∧ Ext w w' := by
  refine (codes_bad x len cap f w hx hl _ _ (hE.var 1 (by decide)) (hE.var 2 (by decide)) h).mono ?_
  rintro e w2 ⟨h2, q | q⟩
  · exact ⟨⟨1, by decide, q.1, by unfold vcode; rw [if_neg q.2]; rfl⟩, h2⟩
  · exact ⟨⟨2, by decide, q.1, by unfold vcode; rw [if_pos q.2, if_neg (fun h' => h ⟨q.2, h'⟩)]; rfl⟩, h2⟩
end Go.Proofs.YtkddbhngffbljaaDoor
