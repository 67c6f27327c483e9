/- ChunkTurned's walk. -/
import Derived.Test.YtkfjcgcgfdibaaaDoorChkFew
import Derived.Test.YtkfjcgcgfdibaaaDoorChkTurn
import Derived.Test.YtkfjcgcgfdibaaaDoorRow8
import Derived.Laws.IdiomStrings
namespace Go.Proofs.YtkfjcgcgfdibaaaDoor
open Go.RowKit
set_option maxRecDepth 100000
theorem flip8 (x t : Nat) (hx : x < 256) (ht : t < 8) : ∃ c : UInt8, c.toNat = x ^^^ 2 ^ t ∧ bits BinOp.xor IntKind.u8 (x : Int) ((2 : Int) ^ t % 256) = (c.toNat : Int) := by
  have h2 : 2 ^ t < 256 := by
    have := Nat.pow_lt_pow_right (a := 2) (by decide) ht; simpa using this
  have hlt : x ^^^ 2 ^ t < 2 ^ 8 := Nat.xor_lt_two_pow (by omega) (by omega)
  have hc : (UInt8.ofNat (x ^^^ 2 ^ t)).toNat = x ^^^ 2 ^ t := by
    rw [UInt8.toNat_ofNat']; exact Nat.mod_eq_of_lt hlt
  refine ⟨UInt8.ofNat (x ^^^ 2 ^ t), hc, ?_⟩
  rw [hc]
  have e : (2 : Int) ^ t % 256 = ((2 ^ t : Nat) : Int) := by
    rw [show ((2 ^ t : Nat) : Int) = (2 : Int) ^ t by simp]
    refine Int.emod_eq_of_lt (by exact Int.pow_nonneg (by decide)) ?_
    have : ((2 ^ t : Nat) : Int) < 256 := by omega
    simpa using this
  rw [e, u8_xor_nat _ _ hx h2]
theorem bytes_row (S : ByteArray) (w : World) : ∃ cap W1, (convert 9 76 (.string S)).run Tryd.prog w = .ok (.slice (some ⟨w.heap.size, 0, none⟩) S.size cap) W1 ∧ Row8 W1 w.heap.size S.data.toList ∧ Ext w W1 := by
  refine ⟨_, _, run_bytes_of_string (P := Tryd.prog) w 9 76 5 S Tryd.underlying9 Tryd.underlying76 Tryd.underlying5, ?_, (show Ext w w.drew from Below.drew (Ext.refl _)).alloc _⟩
  intro j hj
  have hj' : j < S.data.size := by simpa using hj
  refine ⟨?_, ?_⟩
  · show (w.drew.alloc _).cell? ⟨w.drew.heap.size, j, none⟩ = _
    rw [World.cell?_alloc_mark, bytesRow_at S _ j hj']; simp
  · show (w.drew.alloc _).frozen? ⟨w.drew.heap.size, j, none⟩ = _
    rw [World.frozen?_alloc_mark]
    have : S.data.size ≤ (bytesRow S (grownCap w S.size 0 5)).size := by unfold bytesRow; simp
    have h2 : ¬ (bytesRow S (grownCap w S.size 0 5)).size ≤ j := by omega
    simp [h2]
theorem bytes_back (W : World) (B cap n : Nat) (l : List UInt8) (hn : l.length = n) (hR : Row8 W B l) : (convert 76 9 (.slice (some ⟨B, 0, none⟩) n cap)).run Tryd.prog W = .ok (.string ⟨l.toArray⟩) W := by
  subst hn
  refine run_convert_bytes_back (P := Tryd.prog) W 76 9 5 ⟨B, 0, none⟩ _ l Tryd.underlying76 Tryd.underlying5 Tryd.underlying9 (fun j hj => ?_)
  rw [add_plain]; exact (hR j hj).1
set_option maxHeartbeats 4000000 in
theorem chunkTurned_any (x : Option Addr) (cap : Nat) (L : List Ck) (at_ bit : Int) (w : World) (E : Nat → Addr) (hE : ErrC w E) (hx : Cks w x L) (hn : L.length ≤ maxLen) (hO : ∀ c ∈ L, c.k.size ≤ maxLen ∧ c.d.size ≤ 140737488355328)
    (ha : -9223372036854775808 ≤ at_ ∧ at_ ≤ 9223372036854775807) (hb : -9223372036854775808 ≤ bit ∧ bit ≤ 9223372036854775807) :
    Calls Tryd.prog 10 #[.slice x L.length cap, .int .i64 at_, .int .i64 bit] w fun e w' => e = .returned (.bool true) ∧ Ext w w' := by
  obtain ⟨ha1, ha2⟩ := ha
  obtain ⟨hb1, hb2⟩ := hb
  have HE := Lib.hid hE
  have HX := Lib.hid hx
  have HO := Lib.hid hO
  clear hE hx hO
  go_enter Tryd.func10, Tryd.ntmps10
  go_wp2_with fail
  refine (bare_any _ E HE.out).mono ?_
  rintro e w1 ⟨rfl, h1⟩
  have X1 := Lib.hid h1
  have C1 := Lib.hid (HX.out.ext h1)
  clear h1
  by_cases q : 30 < L.length
  · have HF := Lib.hid (few_big x cap L w1 C1.out hn q)
    clear q
    go_wp2_with fail
    refine HF.out.mono ?_
    rintro e w9 ⟨rfl, rfl⟩
    go_wp2_with fail
    go_ret
    exact ⟨rfl, X1.out⟩
  · have h30 : L.length ≤ 30 := by omega
    have HF := Lib.hid (few_any x cap L w1 C1.out h30 (fun c h => (HO.out c h).2))
    clear q
    by_cases qs : sumD L L.length ≤ 3000
    · rw [decide_eq_true qs] at HF
      have hok : ∀ c ∈ L, c.Ok := fun c h => by
        obtain ⟨i, hi, hc⟩ := List.mem_iff_getElem.1 h
        have := sumD_ge (k := L.length) hi (List.getElem?_eq_some_iff.2 ⟨hi, hc⟩)
        exact ⟨(HO.out c h).1, by omega⟩
      have HOK := Lib.hid hok
      have H30 := Lib.hid h30
      clear hok qs
      by_cases q0 : bit < 0
      · have t0 : decide (bit < 0) = true := decide_eq_true q0
        go_wp2_with fail
        refine HF.out.mono ?_
        rintro e w9 ⟨rfl, rfl⟩
        go_wp2_with fail
        go_ret
        exact ⟨rfl, X1.out⟩
      · have t0 : decide (bit < 0) = false := decide_eq_false q0
        by_cases q7 : 7 < bit
        · have t7 : decide (7 < bit) = true := decide_eq_true q7
          go_wp2_with fail
          refine HF.out.mono ?_
          rintro e w9 ⟨rfl, rfl⟩
          go_wp2_with fail
          go_ret
          exact ⟨rfl, X1.out⟩
        · have t7 : decide (7 < bit) = false := decide_eq_false q7
          obtain ⟨R, hR⟩ : ∃ R, fileL L L.length = R := ⟨_, rfl⟩
          have HR := Lib.hid hR
          have hwr := fun y cap w hE hC => write_any y cap L w E hE hC (by omega) HOK.out
          rw [hR] at hwr
          have HWR := Lib.hid hwr
          clear hwr hR
          go_wp2_with fail
          refine HF.out.mono ?_
          rintro e w9 ⟨rfl, rfl⟩
          go_wp2_with fail
          refine (own_any x cap L _ C1.out H30.out).mono ?_
          rintro e w2 ⟨⟨ox, oc, rfl, hD⟩, h2⟩
          have X2 := Lib.hid (X1.out.trans h2)
          have C2 := Lib.hid (C1.out.ext h2)
          have D2 := Lib.hid hD
          clear h2 hD
          go_wp2_with fail
          refine (HWR.out _ _ _ (HE.out.ext X2.out) D2.out).mono ?_
          rintro e w3 ⟨h3, h4⟩
          have X3 := Lib.hid (X2.out.trans h3)
          have C3 := Lib.hid (C2.out.ext h3)
          clear h3
          rcases h4 with ⟨out, ho, rfl⟩ | ⟨c, i, F, hc9, hi, hb, rfl, hF⟩
          · subst ho
            have hlen := fileL_len HR.out
            obtain ⟨S, hS⟩ : ∃ S : ByteArray, S = ⟨out.toArray⟩ := ⟨_, rfl⟩
            have hSl : S.data.toList = out := by rw [hS]
            have hSs : S.size ≤ 300000 := by rw [hS]; exact hlen
            rw [← hS]
            have HSL := Lib.hid hSl
            clear hS hlen hSl
            by_cases q8 : at_ < 8
            · have t8 : decide (at_ < 8) = true := decide_eq_true q8
              go_wp2_with fail
              go_ret
              exact ⟨rfl, X3.out⟩
            · have t8 : decide (at_ < 8) = false := decide_eq_false q8
              obtain ⟨p, rfl⟩ : ∃ p : Nat, at_ = (p : Int) := ⟨at_.toNat, by omega⟩
              by_cases ql : S.size ≤ p
              · have tl : decide ((S.size : Int) ≤ (p : Int)) = true := decide_eq_true (by omega)
                go_wp2_with fail
                go_ret
                exact ⟨rfl, X3.out⟩
              · have tl : decide ((S.size : Int) ≤ (p : Int)) = false := decide_eq_false (by omega)
                obtain ⟨n, hn0⟩ : ∃ n, L.length = n := ⟨_, rfl⟩
                have HN := Lib.hid hn0
                rw [hn0] at hn h30 ⊢
                clear hn0
                go_wp2_with fail
                go_loopw [10, 11] (fun f c wr => ∃ (k : Nat) (o : Nat), k ≤ n ∧ c = .int .i64 k ∧ f = .int .i64 (8 + o : Nat) ∧ o ≤ k * 6000 ∧ Hid (off L k = o) ∧ Hid (∀ i, i < k → ¬ (8 + off L i ≤ p ∧ p < 8 + off L i + 4)) ∧ Hid (Ext w wr)) (fun _ c _ => n - (intOf c).toNat)
                case atStart => exact ⟨0, 0, by omega, rfl, rfl, by omega, Lib.hid (off_zero L), Lib.hid (fun i h => by omega), X3⟩
                case round =>
                  obtain ⟨k, o, hk, rfl, rfl, hob, HOF, HNO, HW⟩ := hrel
                  by_cases hlt : k < n
                  · obtain ⟨a, rfl⟩ := HX.out.isSome (i := k) (by rw [HN.out]; exact hlt)
                    obtain ⟨c, hc⟩ : ∃ c, L[k]? = some c := ⟨_, List.getElem?_eq_getElem (by rw [HN.out]; exact hlt)⟩
                    obtain ⟨c0, c1⟩ := (HX.out.ext HW.out).2 a rfl k c hc
                    have hcd := (HOK.out c (List.mem_of_getElem? hc)).d
                    have hs := off_succ L k c hc
                    rw [HOF.out] at hs
                    have HS := Lib.hid hs
                    clear c0 hs hc
                    by_cases g1 : 8 + o ≤ p
                    · have u1 : decide ((8 : Int) + (o : Int) ≤ (p : Int)) = true := decide_eq_true (by omega)
                      by_cases g2 : p < 8 + o + 4
                      · have u2 : decide ((p : Int) < (8 : Int) + (o : Int) + 4) = true := decide_eq_true (by omega)
                        go_wp2_with fail
                        go_ret
                        exact ⟨rfl, HW.out⟩
                      · have u2 : decide ((p : Int) < (8 : Int) + (o : Int) + 4) = false := decide_eq_false (by omega)
                        go_wp2_with fail
                        go_roundw
                        case rel => exact ⟨k + 1, o + (12 + c.d.size), by omega, by go_num, by go_num, by omega, HS, Lib.hid (fun i hi => by
                          by_cases e : i = k
                          · rw [e, HOF.out]; omega
                          · exact HNO.out i (by omega)), HW⟩
                        case measure => simp [intOf]; omega
                    · have u1 : decide ((8 : Int) + (o : Int) ≤ (p : Int)) = false := decide_eq_false (by omega)
                      go_wp2_with fail
                      go_roundw
                      case rel => exact ⟨k + 1, o + (12 + c.d.size), by omega, by go_num, by go_num, by omega, HS, Lib.hid (fun i hi => by
                        by_cases e : i = k
                        · rw [e, HOF.out]; omega
                        · exact HNO.out i (by omega)), HW⟩
                      case measure => simp [intOf]; omega
                  · obtain rfl : k = n := by omega
                    obtain ⟨t, rfl⟩ : ∃ t : Nat, bit = (t : Int) := ⟨bit.toNat, by omega⟩
                    have ht8 : t < 8 := by omega
                    have hps : p < S.data.toList.length := by show p < S.size; omega
                    obtain ⟨o1, ho1⟩ : ∃ o1, S.data.toList[p] = o1 := ⟨_, rfl⟩
                    obtain ⟨v, hv1, hv2⟩ := flip8 o1.toNat t o1.toNat_lt ht8
                    obtain ⟨e', i', he9, hi', hbad⟩ := turned_bad (p := p) (t := t) (o := o1) (v := v) (fun c h => (HOK.out c h).d) HR.out (by omega) (by rw [HN.out]; exact HNO.out) ht8 (by rw [← HSL.out, List.getElem?_eq_getElem hps, ho1]) hv1
                    obtain ⟨cp, W1, hcv, hR8, hXW⟩ := bytes_row S wr
                    obtain ⟨hc0, hf0⟩ := hR8 p hps
                    rw [ho1] at hc0
                    have hback := bytes_back (W1.setCell ⟨wr.heap.size, p, none⟩ (.int .u8 (v.toNat : Int))) wr.heap.size cp S.size (S.data.toList.set p v) (by rw [List.length_set]; rfl) (hR8.put p hps v)
                    obtain ⟨Z, hZ⟩ : ∃ Z : ByteArray, Z = ⟨(S.data.toList.set p v).toArray⟩ := ⟨_, rfl⟩
                    have hZs : Z.size ≤ 300000 := by rw [hZ]; show (S.data.toList.set p v).length ≤ _; rw [List.length_set]; exact hSs
                    rw [← hZ] at hback
                    have hra := fun w hE => read_any Z w E hE hZs
                    rw [show readL Z = .bad e' i' by rw [hZ, HSL.out]; exact hbad] at hra
                    have HRA := Lib.hid hra
                    have XW : Hid (Ext w (W1.setCell ⟨wr.heap.size, p, none⟩ (.int .u8 (v.toNat : Int)))) := Lib.hid ((HW.out.trans hXW).setCell (p := ⟨wr.heap.size, p, none⟩) HW.out.size (.int .u8 (v.toNat : Int)))
                    clear hra hbad hv1 hR8 hXW hZ
                    have hpi : (p : Int) < (S.size : Int) := by omega
                    go_wp2_with fail
                    refine (HRA.out _ (HE.out.ext XW.out)).mono ?_
                    rintro e w6 ⟨h6, h7⟩
                    have X6 := Lib.hid (XW.out.trans h6)
                    clear h6
                    rcases h7 with ⟨L', y, d, hL', _⟩ | ⟨c', i2, F', _, _, _, rfl, _⟩
                    · cases hL'
                    · go_wp2_with fail
                      go_ret
                      exact ⟨rfl, X6.out⟩
          · go_wp2_with fail
            go_ret
            exact ⟨rfl, X3.out⟩
    · rw [decide_eq_false qs] at HF
      clear qs
      go_wp2_with fail
      refine HF.out.mono ?_
      rintro e w9 ⟨rfl, rfl⟩
      go_wp2_with fail
      go_ret
      exact ⟨rfl, X1.out⟩
end Go.Proofs.YtkfjcgcgfdibaaaDoor
