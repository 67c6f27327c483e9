/- ChunkWrites' walk. -/
import Derived.Test.YtkfjcgcgfdibaaaDoorChkFew
import Derived.Test.YtkfjcgcgfdibaaaDoorChkLaw2
import Derived.Test.YtkfjcgcgfdibaaaDoorFaulted2
namespace Go.Proofs.YtkfjcgcgfdibaaaDoor
open Go.RowKit
set_option maxRecDepth 100000
set_option maxHeartbeats 4000000 in
theorem chunkWrites_any (x : Option Addr) (cap : Nat) (L : List Ck) (w : World) (E : Nat → Addr) (hE : Errs w E) (hx : Cks w x L) (hn : L.length ≤ maxLen) (hO : ∀ c ∈ L, c.k.size ≤ maxLen ∧ c.d.size ≤ 140737488355328) :
    Calls Tryd.prog 11 #[.slice x L.length cap] w fun e w' => e = .returned (.bool true) ∧ Ext w w' := by
  have HE := Lib.hid hE
  have HX := Lib.hid hx
  have HO := Lib.hid hO
  clear hE hx hO
  go_enter Tryd.func11, Tryd.ntmps11
  go_wp2_with fail
  refine (bare_any _ E HE.out).mono ?_
  rintro e w1 ⟨rfl, h1⟩
  have X1 := Lib.hid h1
  have C1 := Lib.hid (HX.out.ext h1)
  clear h1
  by_cases q : 30 < L.length
  · have HF := Lib.hid (few_big x cap L w1 C1.out hn q)
    clear q
    go_wp2_with fail
    refine HF.out.mono ?_
    rintro e w9 ⟨rfl, rfl⟩
    go_wp2_with fail
    go_ret
    exact ⟨rfl, X1.out⟩
  · have h30 : L.length ≤ 30 := by omega
    have HF := Lib.hid (few_any x cap L w1 C1.out h30 (fun c h => (HO.out c h).2))
    clear q
    by_cases qs : sumD L L.length ≤ 3000
    · rw [decide_eq_true qs] at HF
      have hok : ∀ c ∈ L, c.Ok := fun c h => by
        obtain ⟨i, hi, hc⟩ := List.mem_iff_getElem.1 h
        have := sumD_ge (k := L.length) hi (List.getElem?_eq_some_iff.2 ⟨hi, hc⟩)
        exact ⟨(HO.out c h).1, by omega⟩
      have HOK := Lib.hid hok
      obtain ⟨R, hR⟩ : ∃ R, fileL L L.length = R := ⟨_, rfl⟩
      have HR := Lib.hid hR
      have hwr := fun y cap w hE hC => write_any y cap L w E hE hC (by omega) hok
      have hof := fun y cap w hC => fileOf_any y cap L w hC (by omega) hok
      rw [hR] at hwr hof
      have HWR := Lib.hid hwr
      have HOF := Lib.hid hof
      have H30 := Lib.hid h30
      clear hwr hof hok qs hR
      go_wp2_with fail
      refine HF.out.mono ?_
      rintro e w9 ⟨rfl, rfl⟩
      go_wp2_with fail
      refine (own_any x cap L _ C1.out H30.out).mono ?_
      rintro e w2 ⟨⟨ox, oc, rfl, hD⟩, h2⟩
      have X2 := Lib.hid (X1.out.trans h2)
      have C2 := Lib.hid (C1.out.ext h2)
      have D2 := Lib.hid hD
      clear h2 hD
      go_wp2_with fail
      refine (HWR.out _ _ _ (HE.out.ext X2.out) D2.out).mono ?_
      rintro e w3 ⟨h3, h4⟩
      have X3 := Lib.hid (X2.out.trans h3)
      have C3 := Lib.hid (C2.out.ext h3)
      clear h3
      rcases h4 with ⟨out, ho, rfl⟩ | ⟨c, i, F, hc9, hi, hb, rfl, hF⟩
      · subst ho
        go_wp2_with fail
        refine (HOF.out _ _ _ C3.out).mono ?_
        rintro e w4 ⟨h4, h5⟩
        rcases h5 with ⟨out', ho', rfl⟩ | ⟨c', i', _, hb, _⟩
        · injection ho' with ho'
          subst ho'
          have X4 := Lib.hid (X3.out.trans h4)
          have C4 := Lib.hid (C3.out.ext h4)
          clear h4
          have hlen := fileL_len HR.out
          have hrd := write_read (fun c h => (HOK.out c h).d) HR.out
          obtain ⟨S, hS⟩ : ∃ S : ByteArray, S = ⟨out.toArray⟩ := ⟨_, rfl⟩
          have hSs : S.size ≤ 300000 := by rw [hS]; exact hlen
          rw [← hS] at hrd ⊢
          have hra := fun w hE => read_any S w E hE hSs
          rw [hrd] at hra
          have HRA := Lib.hid hra
          clear hra hrd hS hlen
          have e1 : (S.toList == S.toList) = true := beq_self_eq_true _
          go_wp2_with fail
          refine calls_world (fun wz => Ext w4 wz) ((Ext.refl _).alloc _) ?_
          rintro w5 h5
          have X5 := Lib.hid (X4.out.trans h5)
          have C5 := Lib.hid (C4.out.ext h5)
          clear h5
          refine (HRA.out _ (HE.out.ext X5.out)).mono ?_
          rintro e w6 ⟨h6, h7⟩
          have X6 := Lib.hid (X5.out.trans h6)
          have C6 := Lib.hid (C5.out.ext h6)
          clear h6
          rcases h7 with ⟨L', y, d, hL', rfl, hD⟩ | ⟨c', i', F', _, _, hb, _⟩
          · injection hL' with hL'
            subst hL'
            have D6 := Lib.hid hD
            clear hD
            go_wp2_with fail
            refine (same_any _ _ _ _ _ _ D6.out C6.out (by have := H30.out; omega)).mono ?_
            rintro e w7 ⟨rfl, h7⟩
            have X7 := Lib.hid (X6.out.trans h7)
            clear h7
            go_wp2_with fail
            go_ret
            exact ⟨rfl, X7.out⟩
          · cases hb
        · cases hb
      · subst hb
        go_wp2_with fail
        refine (HOF.out _ _ _ C3.out).mono ?_
        rintro e w4 ⟨h4, h5⟩
        rcases h5 with ⟨out', ho', _⟩ | ⟨c', i', hc', hb, rfl⟩
        · cases ho'
        · injection hb with hb1 hb2
          subst hb1 hb2
          have X4 := Lib.hid (X3.out.trans h4)
          have HV := Lib.hid ((ErrV.fault c F (i : Int) hc9 hF (by omega) hi : ErrV w3 E _ _ _).ext h4)
          clear h4 hF
          have tc : decide ((0 : Int) < (c : Int) + 1) = true := decide_eq_true (by omega)
          go_wp2_with fail
          refine calls_world (fun wz => Ext w4 wz) ((Ext.refl _).alloc _) ?_
          rintro w5 hX5
          have X5 := Lib.hid (X4.out.trans hX5)
          refine (faulted_any _ E (HE.out.ext X5.out) _ _ _ _ _ (HV.out.ext hX5)).mono ?_
          rintro e w6 ⟨rfl, h6⟩
          have X6 := Lib.hid (X5.out.trans h6)
          clear h6 hX5
          have e1 : decide ((c : Int) + 1 = (c : Int) + 1 ∧ ((c : Int) + 1 = 0 ∨ (i : Int) = (i : Int))) = true := decide_eq_true ⟨rfl, .inr rfl⟩
          rw [e1]
          go_wp2_with fail
          go_ret
          exact ⟨rfl, X6.out⟩
    · rw [decide_eq_false qs] at HF
      clear qs
      go_wp2_with fail
      refine HF.out.mono ?_
      rintro e w9 ⟨rfl, rfl⟩
      go_wp2_with fail
      go_ret
      exact ⟨rfl, X1.out⟩
end Go.Proofs.YtkfjcgcgfdibaaaDoor
