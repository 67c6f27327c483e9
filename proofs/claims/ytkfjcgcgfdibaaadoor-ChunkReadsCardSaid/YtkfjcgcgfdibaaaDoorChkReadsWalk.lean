/- ChunkReads' walk. -/
import Derived.Test.YtkfjcgcgfdibaaaDoorSame
import Derived.Test.YtkfjcgcgfdibaaaDoorChkLaw
import Derived.Test.YtkfjcgcgfdibaaaDoorFaulted2
namespace Go.Proofs.YtkfjcgcgfdibaaaDoor
open Go.RowKit
set_option maxRecDepth 100000
set_option maxHeartbeats 4000000 in
theorem chunkReads_any (s : ByteArray) (w : World) (E : Nat → Addr) (hE : Errs w E) (hs : s.size ≤ maxLen) :
    Calls Tryd.prog 12 #[.string s] w fun e w' => e = .returned (.bool true) ∧ Ext w w' := by
  have HE := Lib.hid hE
  clear hE
  unfold maxLen at hs
  go_enter Tryd.func12, Tryd.ntmps12
  go_wp2_with fail
  refine (bare_any _ E HE.out).mono ?_
  rintro e w1 ⟨rfl, h1⟩
  have X1 := Lib.hid h1
  clear h1
  by_cases q : 5000 < s.size
  · have t : decide ((5000 : Int) < (s.size : Int)) = true := decide_eq_true (by omega)
    go_wp2_with fail
    go_ret
    exact ⟨rfl, X1.out⟩
  · have t : decide ((5000 : Int) < (s.size : Int)) = false := decide_eq_false (by omega)
    obtain ⟨R, hR⟩ : ∃ R, readL s = R := ⟨_, rfl⟩
    have HR := Lib.hid hR
    have hrd := fun w hE => read_any s w E hE (by omega)
    have hof := fun w => chunksOf_any s w (by omega)
    rw [hR] at hrd hof
    have HRD := Lib.hid hrd
    have HOF := Lib.hid hof
    clear hrd hof hR
    go_wp2_with fail
    refine (HRD.out _ (HE.out.ext X1.out)).mono ?_
    rintro e w2 ⟨hX2, h2⟩
    have X2 := Lib.hid (X1.out.trans hX2)
    clear hX2
    rcases h2 with ⟨L, x, c, hL, rfl, hC⟩ | ⟨c, i, F, hc9, hi, hb, rfl, hF⟩
    · subst hL
      have HC := Lib.hid hC
      clear hC
      obtain ⟨g1, g2, g3⟩ := read_write (by omega) HR.out
      have G1 := Lib.hid g1
      have G2 := Lib.hid g2
      clear g1 g2
      go_wp2_with fail
      refine (HOF.out _).mono ?_
      rintro e w3 ⟨hX3, h3⟩
      rcases h3 with ⟨L', y, d, hL', rfl, hD⟩ | ⟨c', i', _, hb, _⟩
      · injection hL' with hL'
        subst hL'
        have X3 := Lib.hid (X2.out.trans hX3)
        have HC3 := Lib.hid (HC.out.ext hX3)
        have HD := Lib.hid hD
        clear hX3 hD HC
        go_wp2_with fail
        refine calls_world (fun wz => Ext w3 wz) ((Ext.refl _).alloc _) ?_
        rintro w4 hX4
        have X4 := Lib.hid (X3.out.trans hX4)
        have HC4 := Lib.hid (HC3.out.ext hX4)
        have HD4 := Lib.hid (HD.out.ext hX4)
        clear hX4
        refine (same_any _ _ _ _ _ _ HC4.out HD4.out (by omega)).mono ?_
        rintro e w5 ⟨rfl, h5⟩
        have X5 := Lib.hid (X4.out.trans h5)
        have HC5 := Lib.hid (HC4.out.ext h5)
        clear h5
        go_wp2_with fail
        refine (write_any _ _ _ _ E (HE.out.ext X5.out) HC5.out (by omega) G2.out).mono ?_
        rintro e w6 ⟨hX6, h6⟩
        have X6 := Lib.hid (X5.out.trans hX6)
        clear hX6
        rcases h6 with ⟨out, ho, rfl⟩ | ⟨c', i', _, _, _, hb, _⟩
        · rw [G1.out] at ho
          injection ho with ho
          subst ho
          rw [bytes_eta]
          have e1 : (s.toList == s.toList) = true := beq_self_eq_true _
          go_wp2_with fail
          go_ret
          exact ⟨ret_bool (by simp), X6.out⟩
        · rw [G1.out] at hb; cases hb
      · cases hb
    · subst hb
      go_wp2_with fail
      refine (HOF.out _).mono ?_
      rintro e w3 ⟨hX3, h3⟩
      rcases h3 with ⟨L', y, d, hL', _⟩ | ⟨c', i', hc', hb, rfl⟩
      · cases hL'
      · injection hb with hb1 hb2
        subst hb1 hb2
        have X3 := Lib.hid (X2.out.trans hX3)
        have HV := Lib.hid ((ErrV.fault c F (i : Int) hc9 hF (by omega) hi : ErrV w2 E _ _ _).ext hX3)
        clear hX3 hF
        have tc : decide ((0 : Int) < (c : Int) + 1) = true := decide_eq_true (by omega)
        go_wp2_with fail
        refine calls_world (fun wz => Ext w3 wz) ((Ext.refl _).alloc _) ?_
        rintro w4 hX4
        have X4 := Lib.hid (X3.out.trans hX4)
        refine (faulted_any _ E (HE.out.ext X4.out) _ _ _ _ _ (HV.out.ext hX4)).mono ?_
        rintro e w5 ⟨rfl, h5⟩
        have X5 := Lib.hid (X4.out.trans h5)
        clear h5 hX4
        have e1 : decide ((c : Int) + 1 = (c : Int) + 1 ∧ ((c : Int) + 1 = 0 ∨ (i : Int) = (i : Int))) = true := decide_eq_true ⟨rfl, .inr rfl⟩
        rw [e1]
        go_wp2_with fail
        go_ret
        exact ⟨rfl, X5.out⟩
end Go.Proofs.YtkfjcgcgfdibaaaDoor
