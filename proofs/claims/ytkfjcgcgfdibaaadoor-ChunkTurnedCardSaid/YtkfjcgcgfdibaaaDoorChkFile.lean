/- The document's FileOf. -/
import Derived.Test.YtkfjcgcgfdibaaaDoorChkW
import Derived.Test.YtkfjcgcgfdibaaaDoorRefCrc
namespace Go.Proofs.YtkfjcgcgfdibaaaDoor
open Go.RowKit
set_option maxRecDepth 100000
theorem fine_any (w : World) : Calls Tryd.prog 91 #[] w fun e w' => e = .returned (.agg #[.int .i64 0, .int .i64 (-1)]) ∧ Ext w w' := by
  go_enter Tryd.func91, Tryd.ntmps91
  go_wp2
  exact bodyPost_ret (v := .agg #[.int .i64 0, .int .i64 (-1)]) (by simp [results, Tryd.results91, go_sem]) rfl ⟨rfl, by repeat (first | exact Ext.refl _ | refine Ext.alloc ?_ _ | refine Below.setCell ?_ (by simp <;> omega) _)⟩
theorem flt_set {w0 w : World} {b : Nat} {x y x' y' : Value} (hX : Ext w0 w) (hb : w0.heap.size ≤ b) (hB : Bk w b #[x, y]) :
    Ext w0 ((w.setCell ⟨b, 0, none⟩ x').setCell ⟨b, 1, none⟩ y') ∧ Bk ((w.setCell ⟨b, 0, none⟩ x').setCell ⟨b, 1, none⟩ y') b #[x', y'] :=
  ⟨(Below.setCell hX hb _).setCell hb _, (hB.set_ 0 x').set_ 1 y'⟩
def FOfPost (w w' : World) (r : FRes) (e : Ending) : Prop :=
  Ext w w' ∧ ((∃ out, r = .ok out ∧ e = .returned (.tuple #[.string ⟨out.toArray⟩, .agg #[.int .i64 0, .int .i64 (-1)]])) ∨ (∃ c i : Nat, c < 9 ∧ r = .bad c i ∧ e = .returned (.tuple #[.string ⟨#[]⟩, .agg #[.int .i64 ((c : Int) + 1), .int .i64 (i : Int)]])))
theorem bytes_eta (O : ByteArray) : (⟨O.data.toList.toArray⟩ : ByteArray) = O := by cases O; rfl
set_option linter.unusedSimpArgs false in
set_option maxHeartbeats 4000000 in
theorem fileOf_any (x : Option Addr) (cap : Nat) (L : List Ck) (w : World) (hx : Cks w x L) (hn : L.length ≤ 100000) (hO : ∀ c ∈ L, c.Ok) :
    Calls Tryd.prog 51 #[.slice x L.length cap] w fun e w' => FOfPost w w' (fileL L L.length) e := by
  have HX := Lib.hid hx
  have HO := Lib.hid hO
  clear hx hO
  obtain ⟨n, hn0⟩ : ∃ n, L.length = n := ⟨_, rfl⟩
  have HN := Lib.hid hn0
  rw [hn0] at hn ⊢
  clear hn0
  go_enter Tryd.func51, Tryd.ntmps51
  go_wp2_with fail
  refine calls_world (fun wz => Ext w wz ∧ Bk wz w.heap.size #[.int .i64 0, .int .i64 0]) ⟨(Ext.refl _).alloc _, Bk.at rfl⟩ ?_
  rintro w1 ⟨hX, hB⟩
  obtain ⟨F, hF0⟩ : ∃ F, w.heap.size = F := ⟨_, rfl⟩
  have HF := Lib.hid hF0
  rw [hF0] at hB ⊢
  clear hF0
  refine (sig_any w1).mono ?_
  rintro e w2 ⟨rfl, h⟩
  have HX2 := Lib.hid (hX.trans h)
  have HB2 := Lib.hid (hB.ext h)
  clear hX hB h
  go_wp2_with fail
  go_loopw [4, 5] (fun o c wr => ∃ (k : Nat) (O : ByteArray), k ≤ n ∧ c = .int .i64 k ∧ o = .string O ∧ Hid (fileL L k = .ok O.data.toList) ∧ Hid (Ext w wr) ∧ Hid (Bk wr F #[.int .i64 0, .int .i64 0])) (fun _ c _ => n - (intOf c).toNat)
  case atStart => exact ⟨0, ⟨sigB.toArray⟩, by omega, rfl, rfl, Lib.hid rfl, HX2, HB2⟩
  case round =>
    clear HX2 HB2
    obtain ⟨k, O, hk, rfl, rfl, HL, HW, HB⟩ := hrel
    have hlen : O.size ≤ 300000 := fileL_len HL.out
    by_cases hlt : k < n
    · obtain ⟨a, rfl⟩ := HX.out.isSome (i := k) (by rw [HN.out]; exact hlt)
      obtain ⟨c, hc⟩ : ∃ c, L[k]? = some c := ⟨_, List.getElem?_eq_getElem (by rw [HN.out]; exact hlt)⟩
      obtain ⟨c0, c1⟩ := (HX.out.ext HW.out).2 a rfl k c hc
      obtain ⟨okk, okd⟩ := HO.out c (List.mem_of_getElem? hc)
      have HSt := Lib.hid (fileL_succ HL.out hc)
      have HBad := Lib.hid (fun q (h : fstep c k O.data.toList = .bad q k) => fileL_bad (n := n) HL.out hc h hlt)
      have HCC := Lib.hid (fun wz (h : Ext wr wz) => (HX.out.ext (HW.out.trans h)).2 a rfl k c hc)
      clear hc
      obtain ⟨ck, cd⟩ := c
      simp only at c0 c1 okk okd HCC
      by_cases qk : kindB ck.data.toList = true
      · have hck := kind_size qk
        have HK := Lib.hid qk
        go_wp2_with fail
        refine (refKind_any ck _).mono ?_
        rintro e w9 ⟨rfl, rfl⟩
        rw [HK.out]
        clear qk
        by_cases qb : 300000 < O.size + 12 + cd.size
        · have tq : decide ((300000 : Int) < (O.size : Int) + 12 + (cd.size : Int)) = true := decide_eq_true (by omega)
          have HBB := Lib.hid (HBad.out 1 (fstep_big HK.out (by exact qb)))
          clear HSt HBad HL
          have r0 := HB.out.cell 0
          have s0 := HB.out.frozen 0
          have r1 := HB.out.cell 1
          have s1 := HB.out.frozen 1
          have FS := Lib.hid (flt_set (x' := .int .i64 2) (y' := .int .i64 (k : Int)) HW.out (Nat.le_of_eq HF.out) HB.out)
          go_wp2_with fail
          obtain ⟨u0, u1⟩ : _ ∧ _ := ⟨FS.out.2.cell 0, FS.out.2.cell 1⟩
          exact bodyPost_ret (v := .tuple #[.string ⟨#[]⟩, .agg #[.int .i64 2, .int .i64 (k : Int)]]) (by simp [results, Tryd.results51, go_sem, u0, u1]) rfl ⟨FS.out.1, .inr ⟨1, k, by decide, HBB.out, rfl⟩⟩
        · have tq : decide ((300000 : Int) < (O.size : Int) + 12 + (cd.size : Int)) = false := decide_eq_false (by omega)
          have HS2 := Lib.hid (HSt.out.trans (fstep_ok HK.out (by exact qb)))
          clear HSt HBad HL
          obtain ⟨N1, hN1⟩ : ∃ N : ByteArray, N = ⟨(big4 cd.size).toArray⟩ := ⟨_, rfl⟩
          have hN1s : N1.size = 4 := by rw [hN1]; rfl
          obtain ⟨z, hz⟩ : ∃ z, Crc.crc (ck.data.toList ++ cd.data.toList) = z := ⟨_, rfl⟩
          have hzl : z < 4294967296 := by rw [← hz]; exact Crc.flip_lt (Crc.run_lt (by decide) _)
          obtain ⟨N2, hN2⟩ : ∃ N : ByteArray, N = ⟨(big4 z).toArray⟩ := ⟨_, rfl⟩
          have hN2s : N2.size = 4 := by rw [hN2]; rfl
          have hn1 := fun w => refBig_any cd.size (by omega) w
          rw [← hN1] at hn1
          have HN1 := Lib.hid hn1
          have hcr := fun w => refCRC_any (ck ++ cd) w (by unfold maxLen; rw [ByteArray.size_append]; omega)
          rw [app_list, hz] at hcr
          have HCR := Lib.hid hcr
          have hn2 := fun w => refBig_any z hzl w
          rw [← hN2] at hn2
          have HN2 := Lib.hid hn2
          have henc : (O ++ N1 ++ (ck ++ cd) ++ N2).data.toList = O.data.toList ++ enc ⟨ck, cd⟩ := by rw [app_list, app_list, app_list, app_list, hN1, hN2, ← hz]; simp [enc]
          have HENC := Lib.hid henc
          clear henc hn1 hcr hn2 hz hN1 hN2
          have hw32 : IntKind.u32.wrap (cd.size : Int) = (cd.size : Int) := by unfold IntKind.wrap; simp [IntKind.bits, IntKind.signed]; omega
          have s1 : ¬ 9223372036854775807 < O.size + N1.size := by omega
          have s2 : ¬ 9223372036854775807 < O.size + N1.size + (ck.size + cd.size) := by omega
          have s3 : ¬ 9223372036854775807 < ck.size + cd.size := by omega
          have s4 : ¬ 9223372036854775807 < O.size + N1.size + (ck.size + cd.size) + N2.size := by omega
          clear hck hN1s hN2s
          go_wp2_with fail
          have c0d : wr.drew.cell? (a.add (k * 2)) = some (.string ck) := c0
          have c1d : wr.drew.cell? ⟨(a.add (k * 2)).block, (a.add (k * 2)).off + 1, none⟩ = some (.string cd) := c1
          go_region
          all_goals
            go_wp2_with fail
            refine (HN1.out _).mono ?_
            rintro e w4 ⟨rfl, h4⟩
            clear c0 c1 c0d c1d
            obtain ⟨c0, c1⟩ := HCC.out w4 (Ext.trans (show Ext wr wr.drew from Below.drew (Ext.refl _)) h4)
            have HW4 := Lib.hid (HW.out.trans (Ext.trans (show Ext wr wr.drew from Below.drew (Ext.refl _)) h4))
            have HB4 := Lib.hid ((show Bk wr.drew F _ from HB.out).ext h4)
            clear h4
            go_wp2_with fail
            refine (HCR.out _).mono ?_
            rintro e w5 ⟨rfl, rfl⟩
            go_wp2_with fail
            refine (HN2.out _).mono ?_
            rintro e w6 ⟨rfl, h6⟩
            have HW6 := Lib.hid (HW4.out.trans h6)
            have HB6 := Lib.hid (HB4.out.ext h6)
            clear h6
            go_wp2_with fail
            go_roundw
            case rel => exact ⟨k + 1, O ++ N1 ++ (ck ++ cd) ++ N2, by omega, by go_num, rfl, Lib.hid (by rw [HENC.out]; exact HS2.out), HW6, HB6⟩
            case measure => simp [intOf]; omega
      · have qk' : kindB ck.data.toList = false := by simpa using qk
        have HBB := Lib.hid (HBad.out 2 (fstep_kind qk'))
        clear HSt HBad HL qk
        go_wp2_with fail
        refine (refKind_any ck _).mono ?_
        rintro e w9 ⟨rfl, rfl⟩
        rw [qk']
        clear qk'
        have r0 := HB.out.cell 0
        have s0 := HB.out.frozen 0
        have r1 := HB.out.cell 1
        have s1 := HB.out.frozen 1
        have FS := Lib.hid (flt_set (x' := .int .i64 3) (y' := .int .i64 (k : Int)) HW.out (Nat.le_of_eq HF.out) HB.out)
        go_wp2_with fail
        obtain ⟨u0, u1⟩ : _ ∧ _ := ⟨FS.out.2.cell 0, FS.out.2.cell 1⟩
        exact bodyPost_ret (v := .tuple #[.string ⟨#[]⟩, .agg #[.int .i64 3, .int .i64 (k : Int)]]) (by simp [results, Tryd.results51, go_sem, u0, u1]) rfl ⟨FS.out.1, .inr ⟨2, k, by decide, HBB.out, rfl⟩⟩
    · obtain rfl : k = n := by omega
      go_wp2_with fail
      refine (fine_any _).mono ?_
      rintro e w3 ⟨rfl, h3⟩
      have HW3 := Lib.hid (HW.out.trans h3)
      have HB3 := Lib.hid (HB.out.ext h3)
      clear h3
      have r0 := HB3.out.cell 0
      have s0 := HB3.out.frozen 0
      have r1 := HB3.out.cell 1
      have s1 := HB3.out.frozen 1
      have FS := Lib.hid (flt_set (x' := .int .i64 0) (y' := .int .i64 (-1)) HW3.out (Nat.le_of_eq HF.out) HB3.out)
      go_wp2_with fail
      obtain ⟨u0, u1⟩ : _ ∧ _ := ⟨FS.out.2.cell 0, FS.out.2.cell 1⟩
      exact bodyPost_ret (v := .tuple #[.string O, .agg #[.int .i64 0, .int .i64 (-1)]]) (by simp [results, Tryd.results51, go_sem, u0, u1]) rfl ⟨FS.out.1, .inl ⟨O.data.toList, HL.out, by rw [bytes_eta]⟩⟩
end Go.Proofs.YtkfjcgcgfdibaaaDoor
