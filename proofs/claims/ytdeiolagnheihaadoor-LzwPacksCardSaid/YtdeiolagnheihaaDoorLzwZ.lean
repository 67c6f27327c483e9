/- lzw.Pack, where it can. -/
import Derived.Test.YtdeiolagnheihaaDoorLzwY
import Derived.Test.YtdeiolagnheihaaDoorLzwX
import Derived.Deep.LoopGhost
import Derived.Deep.DeepCutAuto
import Derived.Deep.CutBlock
namespace Go.Proofs.YtdeiolagnheihaaDoor
open Go.RowKit
set_option maxRecDepth 100000
set_option linter.unusedSimpArgs false in
set_option maxHeartbeats 6000000 in
theorem pack_in (s : ByteArray) (wd : Nat) (w : World) (hs : s.size ≤ 300000) (h2 : 2 ≤ wd) (h8 : wd ≤ 8) (hgood : ∀ j, j < s.size → (s.data.toList.getD j 0).toNat < 2 ^ wd) :
    Calls Tryd.prog 12 #[.string s, .int .i64 (wd : Int)] w fun e w' => (∃ l : List UInt8, l.length = ((Lz.pk (2 ^ wd) wd s [] (wd + 1) 0 (Bts.low (2 ^ wd) (wd + 1))).length + 7) / 8 ∧ Crc.num l = Bts.val (Lz.pk (2 ^ wd) wd s [] (wd + 1) 0 (Bts.low (2 ^ wd) (wd + 1))) ∧ e = .returned (.tuple #[.string ⟨l.toArray⟩, .nilIface])) ∧ Ext w w' := by
  obtain ⟨c, hc⟩ : ∃ c : Nat, 2 ^ wd = c := ⟨_, rfl⟩
  obtain ⟨hcl, hch⟩ := pow_bds hc h2 h8
  have hcI := pow_int hc
  have HC := Lib.hid hc
  have hw2 : 2 ≤ (wd : Int) := by omega
  have hw8 : (wd : Int) ≤ 8 := by omega
  have hsI : ¬ (300000 : Int) < (s.size : Int) := by omega
  rw [hc] at hgood
  have HGd := Lib.hid hgood
  clear hgood hc
  obtain ⟨P, hP⟩ : ∃ P, Lz.pk c wd s [] (wd + 1) 0 (Bts.low c (wd + 1)) = P := ⟨_, rfl⟩
  rw [HC.out, hP]
  have HPP := Lib.hid hP
  clear hP hcI
  go_enter Tryd.func12, Tryd.ntmps12
  go_wp2_with fail
  refine (lbad_no _ _ hw2 hw8).mono ?_
  rintro e w9 ⟨rfl, rfl⟩
  go_wp2_with fail
  go_loopw [22] (fun x wr => ∃ k : Nat, k ≤ s.size ∧ x = .int .i64 (k : Int) ∧ Hid (Ext w wr)) (fun x _ => s.size - (intOf x).toNat)
  case atStart => exact ⟨0, by omega, rfl, Lib.hid (Ext.refl _)⟩
  case round =>
    obtain ⟨k, hk, rfl, HX⟩ := hrel
    have hcI := pow_int HC.out
    by_cases hlt : k < s.size
    · obtain ⟨y, hy⟩ : ∃ y, s[k].toNat = y := ⟨_, rfl⟩
      have hgy : (s.data.toList.getD k 0).toNat = y := by rw [byte_at s k hlt, hy]
      have hkI : ((s[k].toNat : Nat) : Int) = (y : Int) := by rw [hy]
      have hyc : y < c := by rw [← hgy]; exact HGd.out k hlt
      have hdv : (y : Int) / (c : Int) = 0 := Int.ediv_eq_zero_of_lt (by omega) (by omega)
      clear hy hgy
      go_wp2_with fail
      go_roundw
      case rel => exact ⟨k + 1, by omega, by go_num, HX⟩
      case measure => simp [intOf]; omega
    obtain rfl : k = s.size := by omega
    clear hlt hk
    go_wp2_with fail
    refine calls_world (fun wz => Ext wr wz ∧ Bk wz wr.heap.size #[.slice none 0 0, .int .i64 0, .int .i64 (wd : Int), .int .i64 ((wd : Int) + 1), .int .i64 0, .map none]) ⟨(Ext.refl _).alloc _, Bk.at rfl⟩ ?_
    rintro w2 ⟨hX, hB⟩
    have HX2 := Lib.hid (HX.out.trans hX)
    have HB : Hid (w.heap.size ≤ wr.heap.size) := Lib.hid HX.out.size
    have hpb : PB w2 wr.heap.size (.slice none 0 0) 0 0 (.int .i64 (wd : Int)) (.int .i64 ((wd + 1 : Nat) : Int)) (.int .i64 ((0 : Nat) : Int)) (.map none) := ⟨⟨hB.cell 0, hB.cell 1, hB.frozen 0, hB.frozen 1, ⟨[], rfl, rfl, World.ownsRow_nil _ _ _ _⟩, (fun e => by cases e), by decide⟩, hB.cell 2, hB.cell 3, hB.cell 4, hB.cell 5, hB.frozen 3, hB.frozen 4, hB.frozen 5⟩
    refine (pclear_any wr.heap.size 0 0 wd (wd + 1) 0 _ _ _ hpb h2 h8 (by omega) (Nat.pow_lt_pow_right (by decide) (by omega)) (by omega)).mono ?_
    rintro e w3 ⟨rfl, v3, mp3, q1, q2, q3, q4, q5, q6⟩
    have HS := Lib.hid (KSt.fresh (s := s) HX2.out HB.out HC.out h2 h8 q1 q2 q3 q4 q5 q6)
    obtain ⟨B, hBe⟩ : ∃ B, wr.heap.size = B := ⟨_, rfl⟩
    rw [hBe] at HS ⊢
    clear hX hB hpb q1 q2 q3 q4 q5 q6 hBe HB HX2 HX hcI
    go_wp2_with fail
    go_loopw [8] (fun x wr => ∃ (a : Nat) (L : List ByteArray) (size : Nat) (Bits : List Bool) (mp : Nat) (v : Value) (gm : Nat → Nat → Option Nat), x = .int .i64 (a : Int) ∧ a ≤ s.size ∧ Hid (KSt w wr B v Bits s c wd size L mp gm) ∧ Hid (Bits.length ≤ 24 * a + 24) ∧ Hid (a < s.size → Lz.pk c wd s L size a Bits = P) ∧ Hid (a = s.size → P = Bits ++ Bts.low (c + 1) (if s.size = 0 then size else Lz.grow c L size))) (fun x _ => s.size - (intOf x).toNat)
    case atStart => exact ⟨0, [], wd + 1, _, mp3, v3, _, rfl, by omega, HS, Lib.hid (by rw [Bts.low_length]; omega), Lib.hid (fun _ => HPP.out), Lib.hid (fun h => by rw [← HPP.out, Lz.pk_none (by omega), if_pos h.symm])⟩
    case round =>
      clear HS
      obtain ⟨a, L, size, Bits, mp, v, gm, rfl, ha, HS, HLn, HPa, HPe⟩ := hrel
      by_cases hlt : a < s.size
      · have HPk := Lib.hid (HPa.out hlt)
        obtain ⟨y, hy⟩ : ∃ y, s[a].toNat = y := ⟨_, rfl⟩
        have hgy : (s.data.toList.getD a 0).toNat = y := by rw [byte_at s a hlt, hy]
        have hkI : ((s[a].toNat : Nat) : Int) = (y : Int) := by rw [hy]
        have HY := Lib.hid hgy
        have hyc : y < c := by rw [← hgy]; exact HGd.out a hlt
        have HYc : Hid ((s.data.toList.getD a 0).toNat < c) := Lib.hid (HGd.out a hlt)
        have HGr := Lib.hid (Lz.Gr.one (c := c) (L := L) hlt)
        rw [hgy] at HGr
        clear hy hgy HPa HPe
        go_upto_block 4 with fail
        go_cut [8, 9] (fun s8 s9 wx => ∃ (m k : Nat), s8 = .int .i64 ((a + m : Nat) : Int) ∧ s9 = .int .i64 (k : Int) ∧ Hid (Lz.Gr c L s a m k) ∧ Hid (a + m = s.size ∨ (a + m < s.size ∧ gm k (s.data.toList.getD (a + m) 0).toNat = none)) ∧ Hid (KSt w wx B v Bits s c wd size L mp gm))
        case first =>
          go_wp2_with fail
          go_loopg [8, 9] (s.size - a) (fun q x z wx => ∃ (m k : Nat), x = .int .i64 ((a + m : Nat) : Int) ∧ z = .int .i64 (k : Int) ∧ Hid (Lz.Gr c L s a m k) ∧ Hid (KSt w wx B v Bits s c wd size L mp gm) ∧ Hid (q + m = s.size - a + 1))
          case atStart => exact ⟨1, y, by go_num, by go_num, HGr, HS, Lib.hid (by omega)⟩
          case round =>
            clear HS HGr
            obtain ⟨m, k, rfl, rfl, HGr, HS, HQ⟩ := hrel
            obtain ⟨A, hA⟩ : ∃ A, a + m = A := ⟨_, rfl⟩
            have HA := Lib.hid hA
            have hAle : A ≤ s.size := by have := HGr.out.le; omega
            rw [hA]
            clear hA
            by_cases hl2 : A < s.size
            · obtain ⟨z, hz⟩ : ∃ z, s[A].toNat = z := ⟨_, rfl⟩
              have hgz : (s.data.toList.getD A 0).toNat = z := by rw [byte_at s A hl2, hz]
              have hzI : ((s[A].toNat : Nat) : Int) = (z : Int) := by rw [hz]
              have hz256 : z < 256 := by rw [← hz]; exact UInt8.toNat_lt _
              have HZ := Lib.hid hgz
              have hk6 : k ≤ 1000000 := by have q1 := (HGr.out.lt HYc.out).1; have q2 := HS.out.wl.len; omega
              have hAi : (A : Int) < (s.size : Int) := by omega
              clear hz hgz
              go_wp2_with fail
              have S_0 := Lib.hid (HS.out)
              refine wp_region_held_drew (S := fun w' => True) (by kernel_rfl) trivial (fun hHeld => ?_)
              clear hHeld
              refine anyH_world (fun wz => Ext wr wz) (show Ext wr wr.drew from Below.drew (Ext.refl wr)) ?_
              rintro w1 h
              have S_1 := Lib.hid (S_0.out.ext h)
              clear h S_0
              have hHeld : True := trivial
              refine wpAnyH_take (i := 0) (v := ?_) rfl (by kernel_rfl) (by kernel_rfl) (by kernel_rfl) (fun _ _ _ h => h) (Or.inl ⟨by kernel_rfl, ?_⟩) hHeld ?_
              rotate_left
              · intro w hSw
                (try dsimp only at hSw)
                go_split_ands
                go_simp
                (try with_reducible rfl)
              try simp only [Act.put, List.getElem_toArray, List.getElem_cons_succ, List.getElem_cons_zero, List.setIfInBounds_toArray, List.set_cons_zero, List.set_cons_succ]
              refine wpAnyH_take (i := 1) (v := ?_) rfl (by kernel_rfl) (by kernel_rfl) (by kernel_rfl) (fun _ _ _ h => h) (Or.inl ⟨by kernel_rfl, ?_⟩) hHeld ?_
              rotate_left
              · intro w hSw
                (try dsimp only at hSw)
                go_split_ands
                go_simp
                (try with_reducible rfl)
              try simp only [Act.put, List.getElem_toArray, List.getElem_cons_succ, List.getElem_cons_zero, List.setIfInBounds_toArray, List.set_cons_zero, List.set_cons_succ]
              refine wpAnyH_take (i := 2) (v := ?_) rfl (by kernel_rfl) (by kernel_rfl) (by kernel_rfl) (fun _ _ _ h => h) (Or.inl ⟨by kernel_rfl, ?_⟩) hHeld ?_
              rotate_left
              · intro w hSw
                (try dsimp only at hSw)
                go_split_ands
                go_simp
                (try with_reducible rfl)
              try simp only [Act.put, List.getElem_toArray, List.getElem_cons_succ, List.getElem_cons_zero, List.setIfInBounds_toArray, List.set_cons_zero, List.set_cons_succ]
              refine wpAnyH_take (i := 4) (v := ?_) rfl (by kernel_rfl) (by kernel_rfl) (by kernel_rfl) (fun _ _ _ h => h) (Or.inl ⟨by kernel_rfl, ?_⟩) hHeld ?_
              rotate_left
              · intro w hSw
                (try dsimp only at hSw)
                go_split_ands
                go_simp
                (try with_reducible rfl)
              try simp only [Act.put, List.getElem_toArray, List.getElem_cons_succ, List.getElem_cons_zero, List.setIfInBounds_toArray, List.set_cons_zero, List.set_cons_succ]
              refine wpAnyH_take (i := 5) (v := ?_) rfl (by kernel_rfl) (by kernel_rfl) (by kernel_rfl) (fun _ _ _ h => h) (Or.inl ⟨by kernel_rfl, ?_⟩) hHeld ?_
              rotate_left
              · intro w hSw
                (try dsimp only at hSw)
                go_split_ands
                go_simp
                (try with_reducible rfl)
              try simp only [Act.put, List.getElem_toArray, List.getElem_cons_succ, List.getElem_cons_zero, List.setIfInBounds_toArray, List.set_cons_zero, List.set_cons_succ]
              refine wpAnyH_take (i := 6) (v := ?_) rfl (by kernel_rfl) (by kernel_rfl) (by kernel_rfl) (fun _ _ _ h => h) (Or.inl ⟨by kernel_rfl, ?_⟩) hHeld ?_
              rotate_left
              · intro w hSw
                (try dsimp only at hSw)
                go_split_ands
                go_simp
                (try with_reducible rfl)
              try simp only [Act.put, List.getElem_toArray, List.getElem_cons_succ, List.getElem_cons_zero, List.setIfInBounds_toArray, List.set_cons_zero, List.set_cons_succ]
              refine wpAnyH_take (i := 7) (v := ?_) rfl (by kernel_rfl) (by kernel_rfl) (by kernel_rfl) (fun _ _ _ h => h) (Or.inl ⟨by kernel_rfl, ?_⟩) hHeld ?_
              rotate_left
              · intro w hSw
                (try dsimp only at hSw)
                go_split_ands
                go_simp
                (try with_reducible rfl)
              try simp only [Act.put, List.getElem_toArray, List.getElem_cons_succ, List.getElem_cons_zero, List.setIfInBounds_toArray, List.set_cons_zero, List.set_cons_succ]
              refine wpAnyH_take (i := 8) (v := ?_) rfl (by kernel_rfl) (by kernel_rfl) (by kernel_rfl) (fun _ _ _ h => h) (Or.inl ⟨by kernel_rfl, ?_⟩) hHeld ?_
              rotate_left
              · intro w hSw
                (try dsimp only at hSw)
                go_split_ands
                go_simp
                (try with_reducible rfl)
              try simp only [Act.put, List.getElem_toArray, List.getElem_cons_succ, List.getElem_cons_zero, List.setIfInBounds_toArray, List.set_cons_zero, List.set_cons_succ]
              refine wpAnyH_ready (rs := [3]) (by kernel_rfl) (by simp) ?_
              refine AllReadyH.cons rfl (fun KK hK => ?_) AllReadyH.nil
              clear hHeld
              have t0 := S_1.out.pb.c5
              go_simp
              clear t0
              refine hK.out _ _ trivial (fun hHeld => ?_)
              clear hK KK
              try simp only [Act.put, List.getElem_toArray, List.getElem_cons_succ, List.getElem_cons_zero, List.setIfInBounds_toArray, List.set_cons_zero, List.set_cons_succ]
              refine wpAnyH_ready (rs := [9]) (by kernel_rfl) (by simp) ?_
              refine AllReadyH.cons rfl (fun KK hK => ?_) AllReadyH.nil
              clear hHeld
              have t0 := S_1.out.mm.look (k := k) (c := z) hk6 hz256
              unfold kv at t0
              obtain ⟨r, hr⟩ : ∃ r, gm k z = r := ⟨_, rfl⟩
              rw [hr] at t0
              have HR := Lib.hid hr
              clear hr
              go_simp
              clear t0
              refine hK.out _ _ trivial (fun hHeld => ?_)
              clear hK KK
              try simp only [Act.put, List.getElem_toArray, List.getElem_cons_succ, List.getElem_cons_zero, List.setIfInBounds_toArray, List.set_cons_zero, List.set_cons_succ]
              refine wpAnyH_take (i := 10) (v := ?_) rfl (by kernel_rfl) (by kernel_rfl) (by kernel_rfl) (fun _ _ _ h => h) (Or.inl ⟨by kernel_rfl, ?_⟩) hHeld ?_
              rotate_left
              · intro w hSw
                (try dsimp only at hSw)
                go_split_ands
                go_simp
                (try with_reducible rfl)
              try simp only [Act.put, List.getElem_toArray, List.getElem_cons_succ, List.getElem_cons_zero, List.setIfInBounds_toArray, List.set_cons_zero, List.set_cons_succ]
              refine wpAnyH_take (i := 11) (v := ?_) rfl (by kernel_rfl) (by kernel_rfl) (by kernel_rfl) (fun _ _ _ h => h) (Or.inl ⟨by kernel_rfl, ?_⟩) hHeld ?_
              rotate_left
              · intro w hSw
                (try dsimp only at hSw)
                go_split_ands
                go_simp
                (try with_reducible rfl)
              try simp only [Act.put, List.getElem_toArray, List.getElem_cons_succ, List.getElem_cons_zero, List.setIfInBounds_toArray, List.set_cons_zero, List.set_cons_succ]
              refine wpAnyH_take (i := 12) (v := ?_) rfl (by kernel_rfl) (by kernel_rfl) (by kernel_rfl) (fun _ _ _ h => h) (Or.inl ⟨by kernel_rfl, ?_⟩) hHeld ?_
              rotate_left
              · intro w hSw
                (try dsimp only at hSw)
                go_split_ands
                go_simp
                (try with_reducible rfl)
              try simp only [Act.put, List.getElem_toArray, List.getElem_cons_succ, List.getElem_cons_zero, List.setIfInBounds_toArray, List.set_cons_zero, List.set_cons_succ]
              refine wpAnyH_take (i := 13) (v := ?_) rfl (by kernel_rfl) (by kernel_rfl) (by kernel_rfl) (fun _ _ _ h => h) (Or.inl ⟨by kernel_rfl, ?_⟩) hHeld ?_
              rotate_left
              · intro w hSw
                (try dsimp only at hSw)
                go_split_ands
                go_simp
                (try with_reducible rfl)
              try simp only [Act.put, List.getElem_toArray, List.getElem_cons_succ, List.getElem_cons_zero, List.setIfInBounds_toArray, List.set_cons_zero, List.set_cons_succ]
              refine wpAnyH_take (i := 14) (v := ?_) rfl (by kernel_rfl) (by kernel_rfl) (by kernel_rfl) (fun _ _ _ h => h) (Or.inl ⟨by kernel_rfl, ?_⟩) hHeld ?_
              rotate_left
              · intro w hSw
                (try dsimp only at hSw)
                go_split_ands
                go_simp
                (try with_reducible rfl)
              try simp only [Act.put, List.getElem_toArray, List.getElem_cons_succ, List.getElem_cons_zero, List.setIfInBounds_toArray, List.set_cons_zero, List.set_cons_succ]
              refine wpAnyH_done (by kernel_rfl) ?_ _
              clear hHeld
              cases r with
              | none =>
                go_wp2_with fail
                go_meet
                exact ⟨m, k, by rw [HA.out], rfl, HGr, Lib.hid (.inr ⟨by have := HA.out; omega, by rw [HA.out, HZ.out]; exact HR.out⟩), S_1⟩
              | some n =>
                have HG2 := Lib.hid (HS.out.gk.yes HGr.out HYc.out (by have := HA.out; omega) (n := n) (by rw [HA.out, HZ.out]; exact HR.out))
                go_wp2_with fail
                go_roundg (s.size - a + 1 - (m + 1))
                case measure => have := HQ.out; have := HA.out; omega
                case rel => exact ⟨m + 1, n, by have := HA.out; rw [← Nat.add_assoc, this]; go_num, rfl, HG2, S_1, Lib.hid (by have := HA.out; omega)⟩
            · obtain rfl : A = s.size := by omega
              go_wp2_with fail
              go_meet
              exact ⟨m, k, by rw [HA.out], rfl, HGr, Lib.hid (.inl HA.out), HS⟩
        case rest =>
          clear HS HGr
          obtain ⟨m, k, rfl, rfl, HGr, HSt, HS⟩ := hcut
          obtain ⟨A, hA⟩ : ∃ A, a + m = A := ⟨_, rfl⟩
          have HA := Lib.hid hA
          have hAle : A ≤ s.size := by have := HGr.out.le; omega
          have hm1 : 1 ≤ m := HGr.out.pos
          have haA : a < A := by omega
          rw [hA]
          clear hA
          have HBs : Hid (Lz.best c L s a = (m, k)) := Lib.hid (Lz.best_of HS.out.wl HGr.out (HSt.out.elim .inl (fun h => .inr (HS.out.gk.no HGr.out HYc.out h.1 h.2))))
          have hkl := (HGr.out.lt HYc.out).1
          have HKz : Hid (k < 2 ^ size) := Lib.hid (Nat.lt_of_lt_of_le hkl HS.out.sz)
          have hwl := HS.out.wl.len
          have hln := HLn.out
          have hhi := HS.out.hi
          obtain ⟨N, hN⟩ : ∃ N, c + 2 + L.length = N := ⟨_, rfl⟩
          rw [hN] at hkl hwl
          have HN := Lib.hid hN
          clear hN
          go_wp2_with fail
          refine (pcode_any B (Bts.val Bits) Bits.length wd size (c + 2 + L.length) k v _ _ HS.out.pb hhi HKz.out (by omega)).mono ?_
          rintro e w5 ⟨rfl, v5, q1, q2⟩
          have HS5 := Lib.hid (HS.out.code HKz.out q1 q2)
          have HLn5 : Hid ((Bits ++ Bts.low k size).length ≤ 24 * a + 24 + 12) := Lib.hid (by rw [List.length_append, Bts.low_length]; omega)
          clear q1 q2 HS HLn hln
          by_cases hl2 : A < s.size
          · have HNo : Hid (gm k (s.data.toList.getD (a + m) 0).toNat = none) := Lib.hid (by have := HA.out; exact HSt.out.elim (fun h => by omega) (fun h => h.2))
            obtain ⟨z, hz⟩ : ∃ z, s[A].toNat = z := ⟨_, rfl⟩
            have hgz : (s.data.toList.getD (a + m) 0).toNat = z := by rw [HA.out, byte_at s A hl2, hz]
            have hzI : ((s[A].toNat : Nat) : Int) = (z : Int) := by rw [hz]
            have hz256 : z < 256 := by rw [← hz]; exact UInt8.toNat_lt _
            have HZ := Lib.hid hgz
            have hAi : (A : Int) < (s.size : Int) := by omega
            have hgm := HNo.out
            rw [hgz] at hgm
            have HGM := Lib.hid hgm
            have HX9 : Hid (s.extract a (a + m + 1) ∉ L) := Lib.hid (HS5.out.gk.no HGr.out HYc.out (by have := HA.out; omega) HNo.out)
            clear hz hgz hgm
            by_cases hfull : N = 4095
            · have HF := Lib.hid hfull
              have HPk2 := Lib.hid ((Lz.pk_full hlt HBs.out (by have := HA.out; omega) (by rw [HN.out]; omega)).symm.trans HPk.out)
              clear hfull
              go_wp2_with fail
              refine (padd_full B _ _ wd size (c + 2 + L.length) k z L.length mp v5 gm _ HS5.out.pb HS5.out.mm HGM.out HS5.out.vm HS5.out.mB (by omega) hz256 hhi (by rw [HN.out]; omega) (by rw [HN.out]; exact HF.out) (pow_ne hhi) h2 h8 (by have q := HS5.out.sz; rw [HC.out]; omega) (by have := HLn5.out; omega)).mono ?_
              rintro e w6 ⟨rfl, v6, mp6, q1, q2, q3, q4, q5, q6⟩
              have HS6 := Lib.hid (HS5.out.full HC.out h2 h8 q1 q2 q3 q4 q5 q6)
              clear q1 q2 q3 q4 q5 q6
              have HGg : Hid (Lz.grow c L size = size) := Lib.hid (by unfold Lz.grow; rw [if_neg]; rintro ⟨q1, q2⟩; exact pow_ne hhi (by have := HF.out; have := HN.out; omega))
              rw [HGg.out] at HPk2
              have HLn6 : Hid (((Bits ++ Bts.low k size) ++ Bts.low c size).length ≤ 24 * A + 24) := Lib.hid (by rw [List.length_append, Bts.low_length]; have := HLn5.out; omega)
              rw [HA.out] at HPk2
              go_wp2_with fail
              go_roundw
              case rel => exact ⟨A, [], wd + 1, _, mp6, v6, _, rfl, hAle, HS6, HLn6, Lib.hid (fun _ => HPk2.out), Lib.hid (fun h => by omega)⟩
              case measure => simp [intOf]; omega
            · have hf2 : N + 1 ≠ 4096 := by omega
              have HF := Lib.hid hf2
              have HPk2 := Lib.hid ((Lz.pk_more hlt HBs.out (by have := HA.out; omega) (by rw [HN.out]; exact hf2)).symm.trans HPk.out)
              clear hfull hf2
              go_wp2_with fail
              refine (padd_more B _ _ wd size (c + 2 + L.length) k z L.length mp v5 gm _ HS5.out.pb HS5.out.mm HGM.out HS5.out.vm HS5.out.mB (by omega) hz256 hhi (by rw [HN.out]; omega) (by rw [HN.out]; exact HF.out)).mono ?_
              rintro e w6 ⟨rfl, q1, q2, q3⟩
              have HS6 := Lib.hid (HS5.out.more hch HGr.out HYc.out (by have := HA.out; omega) HX9.out (by rw [HN.out]; exact HF.out) q1 (by rw [HZ.out]; exact q2) q3)
              clear q1 q2 q3
              have HLn6 : Hid ((Bits ++ Bts.low k size).length ≤ 24 * A + 24) := Lib.hid (by have := HLn5.out; omega)
              rw [HA.out] at HPk2 HS6
              go_wp2_with fail
              go_roundw
              case rel => exact ⟨A, _, _, _, mp, v5, _, rfl, hAle, HS6, HLn6, Lib.hid (fun _ => HPk2.out), Lib.hid (fun h => by omega)⟩
              case measure => simp [intOf]; omega
          · obtain rfl : A = s.size := by omega
            have HPe2 : Hid (P = (Bits ++ Bts.low k size) ++ Bts.low (c + 1) (if s.size = 0 then size else Lz.grow c L size)) := Lib.hid (by rw [if_neg (by omega), ← HPk.out, Lz.pk_last hlt HBs.out (by have := HA.out; omega)])
            have HLn6 : Hid ((Bits ++ Bts.low k size).length ≤ 24 * s.size + 24) := Lib.hid (by have := HLn5.out; omega)
            go_wp2_with fail
            go_roundw
            case rel => exact ⟨s.size, L, size, _, mp, v5, gm, rfl, by omega, HS5, HLn6, Lib.hid (fun h => by omega), Lib.hid (fun _ => HPe2.out)⟩
            case measure => simp [intOf]; omega
      · obtain rfl : a = s.size := by omega
        have hcI := pow_int HC.out
        obtain ⟨C1, hC1⟩ : ∃ C1, c + 1 = C1 := ⟨_, rfl⟩
        have hC1I : (c : Int) + 1 = (C1 : Int) := by omega
        rw [hC1] at HPe
        have HC1 := Lib.hid hC1
        clear hC1
        have HPE := Lib.hid (HPe.out rfl)
        have hhi := HS.out.hi
        have hln := HLn.out
        obtain ⟨T, hT⟩ : ∃ T : Nat, 2 ^ size = T := ⟨_, rfl⟩
        have hTl : T ≤ 4096 := by rw [← hT]; exact Nat.le_trans (Nat.pow_le_pow_right (by decide) hhi) (by decide)
        have hTI := pow_int hT
        have HT := Lib.hid hT
        have hszT := HS.out.sz
        have hwl := HS.out.wl.len
        rw [hT] at hszT
        obtain ⟨N, hN⟩ : ∃ N, c + 2 + L.length = N := ⟨_, rfl⟩
        have HPB := Lib.hid HS.out.pb
        rw [hN] at hszT hwl HPB
        have HN := Lib.hid hN
        have hw1 : IntKind.i64.wrap (T : Int) = (T : Int) := wrap_i (by omega) (by omega)
        have k3 := HPB.out.c3
        have k4 := HPB.out.c4
        have f3 := HPB.out.f3
        clear hT hN HPa HPe
        by_cases hs0 : s.size = 0
        · have e1 : s.toList.isEmpty = true := emp_yes s hs0
          have HSZ : Hid ((if s.size = 0 then size else Lz.grow c L size) = size) := Lib.hid (if_pos hs0)
          clear hs0
          have hx1 : C1 < 2 ^ (size) := by have := HN.out; have := HC1.out; first | (rw [HT.out]; omega) | (rw [Nat.pow_succ, HT.out]; omega)
          have HX1 := Lib.hid hx1
          clear hx1
          go_wp2_with fail
          go_quiet (fail)
          go_wp2_with fail
          refine (pcode_any B (Bts.val Bits) Bits.length wd (size) N C1 v _ _ HPB.out.same (by omega) HX1.out (by omega)).mono ?_
          rintro e w5 ⟨rfl, v5, q1, q2⟩
          have HW5 := Lib.hid q1.wat
          have HX5 := Lib.hid (below_of (by repeat (first | exact HS.out.old | refine Ext.drewN ?_ _)) HS.out.hB HS.out.hv (fun _ q => q.elim) q2)
          clear q1 q2
          go_wp2_with fail
          refine (text_calls B 0 _ _ v5 _ HW5.out).mono ?_
          rintro e w6 ⟨⟨l, hl1, hl2, rfl⟩, rfl⟩
          have HL := Lib.hid (And.intro hl1 hl2)
          clear hl1 hl2
          go_wp2_with fail
          go_ret2
          obtain ⟨e1, e2⟩ := val_low_lt (Bits := Bits) HX1.out
          exact ⟨⟨l, by rw [HPE.out, HSZ.out, e2]; exact HL.out.1, by rw [HPE.out, HSZ.out, e1]; exact HL.out.2, rfl⟩, HX5.out⟩
        · have e1 : s.toList.isEmpty = false := emp_no s hs0
          by_cases hg : N = T
          · by_cases h12 : (size : Int) < 12
            · have HSZ : Hid ((if s.size = 0 then size else Lz.grow c L size) = size + 1) := Lib.hid (by rw [if_neg hs0]; unfold Lz.grow; rw [HN.out, HT.out]; exact if_pos ⟨hg, by omega⟩)
              subst hg
              have HP2 := Lib.hid (HPB.out.set3 (x := .int .i64 ((size : Int) + 1)))
              have HOLD : Hid (Ext w (wr.setCell ⟨B, 3, none⟩ (.int .i64 ((size : Int) + 1)))) := Lib.hid (Below.setCell HS.out.old HS.out.hB _)
              clear hs0
              have hx1 : C1 < 2 ^ (size + 1) := by have := HN.out; have := HC1.out; first | (rw [HT.out]; omega) | (rw [Nat.pow_succ, HT.out]; omega)
              have HX1 := Lib.hid hx1
              clear hx1
              go_wp2_with fail
              go_quiet (fail)
              go_wp2_with fail
              refine (pcode_any B (Bts.val Bits) Bits.length wd (size + 1) N C1 v _ _ HP2.out.same (by omega) HX1.out (by omega)).mono ?_
              rintro e w5 ⟨rfl, v5, q1, q2⟩
              have HW5 := Lib.hid q1.wat
              have HX5 := Lib.hid (below_of (by repeat (first | exact HOLD.out | refine Ext.drewN ?_ _)) HS.out.hB HS.out.hv (fun _ q => q.elim) q2)
              clear q1 q2
              go_wp2_with fail
              refine (text_calls B 0 _ _ v5 _ HW5.out).mono ?_
              rintro e w6 ⟨⟨l, hl1, hl2, rfl⟩, rfl⟩
              have HL := Lib.hid (And.intro hl1 hl2)
              clear hl1 hl2
              go_wp2_with fail
              go_ret2
              obtain ⟨e1, e2⟩ := val_low_lt (Bits := Bits) HX1.out
              exact ⟨⟨l, by rw [HPE.out, HSZ.out, e2]; exact HL.out.1, by rw [HPE.out, HSZ.out, e1]; exact HL.out.2, rfl⟩, HX5.out⟩
            · have HSZ : Hid ((if s.size = 0 then size else Lz.grow c L size) = size) := Lib.hid (by rw [if_neg hs0]; unfold Lz.grow; exact if_neg (fun h => by omega))
              subst hg
              clear hs0
              have hx1 : C1 < 2 ^ (size) := by have := HN.out; have := HC1.out; first | (rw [HT.out]; omega) | (rw [Nat.pow_succ, HT.out]; omega)
              have HX1 := Lib.hid hx1
              clear hx1
              go_wp2_with fail
              go_quiet (fail)
              go_wp2_with fail
              refine (pcode_any B (Bts.val Bits) Bits.length wd (size) N C1 v _ _ HPB.out.same (by omega) HX1.out (by omega)).mono ?_
              rintro e w5 ⟨rfl, v5, q1, q2⟩
              have HW5 := Lib.hid q1.wat
              have HX5 := Lib.hid (below_of (by repeat (first | exact HS.out.old | refine Ext.drewN ?_ _)) HS.out.hB HS.out.hv (fun _ q => q.elim) q2)
              clear q1 q2
              go_wp2_with fail
              refine (text_calls B 0 _ _ v5 _ HW5.out).mono ?_
              rintro e w6 ⟨⟨l, hl1, hl2, rfl⟩, rfl⟩
              have HL := Lib.hid (And.intro hl1 hl2)
              clear hl1 hl2
              go_wp2_with fail
              go_ret2
              obtain ⟨e1, e2⟩ := val_low_lt (Bits := Bits) HX1.out
              exact ⟨⟨l, by rw [HPE.out, HSZ.out, e2]; exact HL.out.1, by rw [HPE.out, HSZ.out, e1]; exact HL.out.2, rfl⟩, HX5.out⟩
          · have t1 : ((N : Int) == (T : Int)) = false := beq_eq_false_iff_ne.2 (by omega)
            have HSZ : Hid ((if s.size = 0 then size else Lz.grow c L size) = size) := Lib.hid (by rw [if_neg hs0]; unfold Lz.grow; rw [HN.out, HT.out]; exact if_neg (fun h => hg h.1))
            clear hs0 hg
            have hx1 : C1 < 2 ^ (size) := by have := HN.out; have := HC1.out; first | (rw [HT.out]; omega) | (rw [Nat.pow_succ, HT.out]; omega)
            have HX1 := Lib.hid hx1
            clear hx1
            go_wp2_with fail
            go_quiet (fail)
            go_wp2_with fail
            refine (pcode_any B (Bts.val Bits) Bits.length wd (size) N C1 v _ _ HPB.out.same (by omega) HX1.out (by omega)).mono ?_
            rintro e w5 ⟨rfl, v5, q1, q2⟩
            have HW5 := Lib.hid q1.wat
            have HX5 := Lib.hid (below_of (by repeat (first | exact HS.out.old | refine Ext.drewN ?_ _)) HS.out.hB HS.out.hv (fun _ q => q.elim) q2)
            clear q1 q2
            go_wp2_with fail
            refine (text_calls B 0 _ _ v5 _ HW5.out).mono ?_
            rintro e w6 ⟨⟨l, hl1, hl2, rfl⟩, rfl⟩
            have HL := Lib.hid (And.intro hl1 hl2)
            clear hl1 hl2
            go_wp2_with fail
            go_ret2
            obtain ⟨e1, e2⟩ := val_low_lt (Bits := Bits) HX1.out
            exact ⟨⟨l, by rw [HPE.out, HSZ.out, e2]; exact HL.out.1, by rw [HPE.out, HSZ.out, e1]; exact HL.out.2, rfl⟩, HX5.out⟩
end Go.Proofs.YtdeiolagnheihaaDoor
