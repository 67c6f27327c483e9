/- lzw.Blocks and the document's. -/
import Derived.Test.YtdeiolagnheihaaDoorBlkLaw
import Derived.Test.YtdeiolagnheihaaDoorErrs
import Derived.Deep.AppendLies
import Derived.Deep.RegionHeld3
import Derived.RegionTactic
namespace Go.Proofs.YtdeiolagnheihaaDoor
open Go.RowKit
set_option maxRecDepth 100000
theorem byte8_any (k : Nat) (hk : k < 256) (w : World) : Calls Tryd.prog 52 #[.int .i64 (k : Int)] w fun e w' => e = .returned (.string (tb [UInt8.ofNat k])) ∧ Ext w w' := by
  have hcr : (convert 23 9 (.slice (some ⟨w.heap.size, 0, none⟩) 1 1)).run Tryd.prog (w.alloc (.cells #[.int .u8 (k : Int)] 5)) = .ok (.string (tb [UInt8.ofNat k])) (w.alloc (.cells #[.int .u8 (k : Int)] 5)) := by
    rw [tb_eq]
    refine run_convert_bytes_back (P := Tryd.prog) (w.alloc (.cells #[.int .u8 (k : Int)] 5)) 23 9 5 ⟨w.heap.size, 0, none⟩ 1 [UInt8.ofNat k] Tryd.underlying23 Tryd.underlying5 Tryd.underlying9 (fun j hj => ?_)
    obtain rfl : j = 0 := by simpa using hj
    rw [add_plain, World.cell?_alloc_at _ _ _ _ rfl]
    have e : (UInt8.ofNat k).toNat = k := by rw [UInt8.toNat_ofNat']; omega
    simp [e]
  go_enter Tryd.func52, Tryd.ntmps52
  go_wp2
  go_ret
  exact ⟨rfl, (Ext.refl _).alloc _⟩
theorem chB_first {s S : ByteArray} {i c : Nat} (hS : S = s.extract (i * 255) s.size) (hc : (chB s i).size = c) (hlt : i * 255 < s.size) : S.extract 0 c = chB s i ∧ S.extract c S.size = s.extract ((i + 1) * 255) s.size := by
  have h1 := chB_size s i
  have hSs : S.size = s.size - i * 255 := by rw [hS, ByteArray.size_extract]; omega
  constructor
  · rw [hS, ByteArray.extract_extract]; unfold chB
    by_cases h : c = 255
    · rw [Nat.add_zero, Nat.min_eq_left (by omega), h, Nat.succ_mul]
    · apply bts_ext
      rw [ex_list, ex_list, Nat.add_zero, List.take_of_length_le (by rw [List.length_drop, list_size]; omega), List.take_of_length_le (by rw [List.length_drop, list_size]; omega)]
  · rw [hSs, hS, ByteArray.extract_extract]
    by_cases h : c = 255
    · rw [Nat.min_eq_right (by omega), h, Nat.succ_mul]
    · apply bts_ext
      rw [ex_list, ex_list, Nat.min_eq_right (by omega), show s.size - (i * 255 + c) = 0 by omega, show s.size - (i + 1) * 255 = 0 by omega, List.take_zero, List.take_zero]
theorem step_append_str {P : Program} {w : World} {ops : Array Oper} {o : Oper} {a : Act} {K : Act → World → Prop} {Q : Exit → Act → World → Prop} {E : Prop} (hgd : o.guard = none) (sl x : Operand) (t u : TypeId)
    (ho : o.op = .call { callee := .builtin .append, args := #[sl, x], argTypes := #[t, u] })
    (base : Nat) (e : TypeId) (i : TypeInfo) (ht : P.underlying t = some (.slice e)) (hu : P.underlying u = some .string) (hi : P.info? e = some i) (hz : i.zero = some (.int .u8 0))
    (hsize : i.size = 1) (hby : i.bytes = 1)
    (v : Value) (n : Nat) (xs : List Value) (hs : a.eval sl = v) (hown : w.ownsRow base e 1 v n xs) (s : ByteArray) (hx : a.eval x = .string s)
    (h63 : n + s.size ≤ maxLen) (hbytes : n + s.size ≤ 140737488355328) (hbase : base ≤ w.heap.size)
    (h : ∀ v' w', w'.ownsRow base e 1 v' (n + s.size) (xs ++ Lib.strCells s) → w.grownBy w' v.ownBlock → K (a.put o.dst v') w') :
    if Region.wanted o (yielded ops a.tmps) = true then Oper.wp P o a w K Q else E := by
  have hw : Region.wanted o (yielded ops a.tmps) = true := by simp [Region.wanted, hgd]
  rw [if_pos hw]
  obtain ⟨v', w', hr, h2, h3, _⟩ := Lib.run_append_own_string (P := P) w base t u o.type e i ht hu hi hz hsize hby v n xs hown s h63 hbytes hbase
  unfold Oper.wp execOp
  simp only [ho, resolve, invoke, builtin, Sem.run_bind, Sem.run_pure, Result.andThen_ok, List.map_toArray, List.map_cons, List.map_nil, hs, hx, hr]
  exact h _ _ h2 h3
theorem run_min2 {P : Program} (w : World) (ts : Array TypeId) (t : TypeId) (k k' : IntKind) (x y : Int) : (Builtin.min_ ts t #[.int k x, .int k' y]).run P w = .ok (.int k (if y < x then y else x)) w := by
  simp [Builtin.min_, Builtin.min2]
set_option linter.unusedSimpArgs false in
set_option maxHeartbeats 2000000 in
theorem blocks_any (s : ByteArray) (w : World) (hs : s.size ≤ 100000) :
    Calls Tryd.prog 18 #[.string s] w fun e w' => e = .returned (.string (tb (outL s))) ∧ Ext w w' := by
  obtain ⟨i0, hi0, hz0, hz1, hz2⟩ := info_parts u8inf
  go_enter Tryd.func18, Tryd.ntmps18
  go_wp2_with fail
  go_loopw [0, 3] (fun u v wr => ∃ (i : Nat) (S : ByteArray), i ≤ nch s ∧ u = .string S ∧ Hid (S = s.extract (i * 255) s.size) ∧ Hid (wr.ownsRow w.heap.size 5 1 v (blkL s i).length (bytesV (blkL s i))) ∧ Hid (Ext w wr)) (fun u _ _ => match u with | .string S => S.size | _ => 0)
  case atStart => exact ⟨0, s, by omega, rfl, Lib.hid (by rw [Nat.zero_mul]; simp), Lib.hid (World.ownsRow_nil _ _ _ _), Lib.hid (Ext.refl _)⟩
  case round =>
    obtain ⟨i, S, hi, rfl, HS, HR, HX⟩ := hrel
    have hSz : S.size = s.size - i * 255 := by rw [HS.out, ByteArray.size_extract]; omega
    have hbl := blkL_length s i
    have hi2 : i ≤ 400 := by unfold nch at hi; omega
    obtain ⟨O, hO⟩ : ∃ O, blkL s i = O := ⟨_, rfl⟩
    obtain ⟨L, hL⟩ : ∃ L, O.length = L := ⟨_, rfl⟩
    have HO := Lib.hid hO
    have HL := Lib.hid hL
    rw [hO] at HR hbl
    rw [hL] at HR hbl
    have hLb : L ≤ 102400 := by omega
    have hsz : w.heap.size ≤ wr.heap.size := HX.out.size
    by_cases hlt : i * 255 < s.size
    · obtain ⟨c, hc⟩ : ∃ c, (chB s i).size = c := ⟨_, rfl⟩
      have hcv := chB_size s i
      rw [hc] at hcv
      obtain ⟨hR1, hR2⟩ := chB_first HS.out hc hlt
      obtain ⟨R, hR⟩ : ∃ R, S.extract 0 c = R := ⟨_, rfl⟩
      obtain ⟨S2, hS2⟩ : ∃ S2, S.extract c S.size = S2 := ⟨_, rfl⟩
      have HRr : Hid (R = chB s i) := Lib.hid (by rw [← hR, hR1])
      have HS2 : Hid (S2 = s.extract ((i + 1) * 255) s.size) := Lib.hid (by rw [← hS2, hR2])
      have hRs : R.size = c := by rw [HRr.out]; exact hc
      have HM : Hid (S2.size < S.size) := Lib.hid (by rw [← hS2, ByteArray.size_extract]; omega)
      have hmn := fun (w : World) (ts : Array TypeId) (t : TypeId) => run_min2 (P := Tryd.prog) w ts t .i64 .i64 255 (S.size : Int)
      have hif : (if (S.size : Int) < 255 then (S.size : Int) else 255) = (c : Int) := by split <;> omega
      rw [hif] at hmn
      have hw8 : IntKind.u8.wrap (c : Int) = (c : Int) := by unfold IntKind.wrap; simp [IntKind.bits, IntKind.signed]; omega
      have e1 : S.toList.isEmpty = false := emp_no S (by omega)
      have hcS : c ≤ S.size := by omega
      have hc255 : c ≤ 255 := by omega
      have HBI : Hid (blkL s (i + 1) = (O ++ [UInt8.ofNat c]) ++ R.data.toList) := Lib.hid (by show blkL s i ++ _ = _; rw [hO, hc, HRr.out]; simp)
      have hi3 : i + 1 ≤ nch s := (nch_iff s i).2 hlt
      clear hc hcv hR1 hR2 hif hbl hSz hO hL
      go_wp2_with fail
      have HRd : Hid (wr.drew.ownsRow w.heap.size 5 1 u3 L (bytesV O)) := HR.out
      refine wp_region_held_drew (S := fun w' => True) (by kernel_rfl) trivial (fun hHeld => ?_)
      clear hHeld
      have hHeld : True := trivial
      refine wpAnyH_take (i := 0) (v := ?_) rfl (by kernel_rfl) (by kernel_rfl) (by kernel_rfl) (fun _ _ _ h => h) (Or.inl ⟨by kernel_rfl, ?_⟩) hHeld ?_
      rotate_left
      · intro w hSw
        (try dsimp only at hSw)
        go_split_ands
        go_simp
        (try with_reducible rfl)
      try simp only [Act.put, List.getElem_toArray, List.getElem_cons_succ, List.getElem_cons_zero, List.setIfInBounds_toArray, List.set_cons_zero, List.set_cons_succ]
      refine wpAnyH_take (i := 1) (v := ?_) rfl (by kernel_rfl) (by kernel_rfl) (by kernel_rfl) (fun _ _ _ h => h) (Or.inl ⟨by kernel_rfl, ?_⟩) hHeld ?_
      rotate_left
      · intro w hSw
        (try dsimp only at hSw)
        go_split_ands
        go_simp
        (try with_reducible rfl)
      try simp only [Act.put, List.getElem_toArray, List.getElem_cons_succ, List.getElem_cons_zero, List.setIfInBounds_toArray, List.set_cons_zero, List.set_cons_succ]
      refine wpAnyH_take (i := 2) (v := ?_) rfl (by kernel_rfl) (by kernel_rfl) (by kernel_rfl) (fun _ _ _ h => h) (Or.inl ⟨by kernel_rfl, ?_⟩) hHeld ?_
      rotate_left
      · intro w hSw
        (try dsimp only at hSw)
        go_split_ands
        go_simp
        (try with_reducible rfl)
      try simp only [Act.put, List.getElem_toArray, List.getElem_cons_succ, List.getElem_cons_zero, List.setIfInBounds_toArray, List.set_cons_zero, List.set_cons_succ]
      refine wpAnyH_take (i := 5) (v := ?_) rfl (by kernel_rfl) (by kernel_rfl) (by kernel_rfl) (fun _ _ _ h => h) (Or.inl ⟨by kernel_rfl, ?_⟩) hHeld ?_
      rotate_left
      · intro w hSw
        (try dsimp only at hSw)
        go_split_ands
        go_simp
        (try with_reducible rfl)
      try simp only [Act.put, List.getElem_toArray, List.getElem_cons_succ, List.getElem_cons_zero, List.setIfInBounds_toArray, List.set_cons_zero, List.set_cons_succ]
      refine wpAnyH_take (i := 6) (v := ?_) rfl (by kernel_rfl) (by kernel_rfl) (by kernel_rfl) (fun _ _ _ h => h) (Or.inl ⟨by kernel_rfl, ?_⟩) hHeld ?_
      rotate_left
      · intro w hSw
        (try dsimp only at hSw)
        go_split_ands
        go_simp
        (try with_reducible rfl)
      try simp only [Act.put, List.getElem_toArray, List.getElem_cons_succ, List.getElem_cons_zero, List.setIfInBounds_toArray, List.set_cons_zero, List.set_cons_succ]
      refine wpAnyH_take (i := 7) (v := ?_) rfl (by kernel_rfl) (by kernel_rfl) (by kernel_rfl) (fun _ _ _ h => h) (Or.inl ⟨by kernel_rfl, ?_⟩) hHeld ?_
      rotate_left
      · intro w hSw
        (try dsimp only at hSw)
        go_split_ands
        go_simp
        (try with_reducible rfl)
      try simp only [Act.put, List.getElem_toArray, List.getElem_cons_succ, List.getElem_cons_zero, List.setIfInBounds_toArray, List.set_cons_zero, List.set_cons_succ]
      refine wpAnyH_ready (rs := [3]) (by kernel_rfl) (by simp) ?_
      refine AllReadyH.cons rfl (fun KK hK => ?_) AllReadyH.nil
      clear hHeld
      go_simp
      refine hK.out _ _ trivial (fun hHeld => ?_)
      clear hK KK
      try simp only [Act.put, List.getElem_toArray, List.getElem_cons_succ, List.getElem_cons_zero, List.setIfInBounds_toArray, List.set_cons_zero, List.set_cons_succ]
      refine wpAnyH_ready (rs := [4]) (by kernel_rfl) (by simp) ?_
      refine AllReadyH.cons rfl (fun KK hK => ?_) AllReadyH.nil
      clear hHeld
      refine step_append_lies _ rfl (.tmp 10) (.tmp 13) 23 rfl w.heap.size 5 i0 (.int .u8 0) 1 1 Tryd.underlying23 hi0 hz0 hz1 hz2 rfl (by decide) u3 L (bytesV O) (by simp [Act.eval]) (HRd.out.alloc _) ⟨wr.heap.size, 0, none⟩ 1 1 [_] (by simp [Act.eval]) rfl (cell_one_new _ _ _) (by intro u hu; simp at hu; subst hu; rfl) (by omega) (by unfold maxLen; omega) (by omega) (by simp; omega) _ rfl ?_
      intro g1 cap1 w1 hown1 hgrow1 hat1 hlt1
      have P1 := grow_one (w := w) (y := UInt8.ofNat c) ((show Ext w wr.drew from Below.drew HX.out).alloc _) (HRd.out.alloc _) hgrow1 (by rw [UInt8.toNat_ofNat', Nat.mod_eq_of_lt (by omega)]; exact hown1)
      have HR1 := Lib.hid P1.1
      have HX1 := Lib.hid P1.2
      clear hown1 hgrow1 hat1 hlt1 P1
      refine hK.out _ _ trivial (fun hHeld => ?_)
      clear hK KK
      try simp only [Act.put, List.getElem_toArray, List.getElem_cons_succ, List.getElem_cons_zero, List.setIfInBounds_toArray, List.set_cons_zero, List.set_cons_succ]
      refine wpAnyH_ready (rs := [8]) (by kernel_rfl) (by simp) ?_
      refine AllReadyH.cons rfl (fun KK hK => ?_) AllReadyH.nil
      clear hHeld
      refine step_append_str rfl (.tmp 14) (.tmp 17) 23 9 rfl w.heap.size 5 i0 Tryd.underlying23 Tryd.underlying9 hi0 hz0 hz1 hz2 (.slice (some ⟨g1, 0, none⟩) (L + 1) cap1) (L + 1) _ (by simp [Act.eval]) HR1.out R (by simp [Act.eval]) (by unfold maxLen; omega) (by omega) HX1.out.size ?_
      intro v2 w5 hown2 hgrow2
      obtain ⟨x2, c2, rfl⟩ := lit_row hown2
      have P2 := grow_str HX1.out HR1.out hgrow2 hown2
      have HF : Hid (w5.ownsRow w.heap.size 5 1 (.slice x2 (L + 1 + R.size) c2) (blkL s (i + 1)).length (bytesV (blkL s (i + 1)))) := Lib.hid (by
        have l : ((O ++ [UInt8.ofNat c]) ++ R.data.toList).length = L + 1 + R.size := by rw [List.length_append, List.length_append, HL.out, list_size]; rfl
        rw [HBI.out, l]; exact P2.1)
      have HX4 := Lib.hid P2.2
      rw [hRs] at HF
      clear P2 hown2 hgrow2
      refine hK.out _ _ trivial (fun hHeld => ?_)
      clear hK KK
      try simp only [Act.put, List.getElem_toArray, List.getElem_cons_succ, List.getElem_cons_zero, List.setIfInBounds_toArray, List.set_cons_zero, List.set_cons_succ]
      refine wpAnyH_take (i := 9) (v := ?_) rfl (by kernel_rfl) (by kernel_rfl) (by kernel_rfl) (fun _ _ _ h => h) (Or.inl ⟨by kernel_rfl, ?_⟩) hHeld ?_
      rotate_left
      · intro w hSw
        (try dsimp only at hSw)
        go_split_ands
        go_simp
        (try with_reducible rfl)
      try simp only [Act.put, List.getElem_toArray, List.getElem_cons_succ, List.getElem_cons_zero, List.setIfInBounds_toArray, List.set_cons_zero, List.set_cons_succ]
      refine wpAnyH_done (by kernel_rfl) ?_ _
      clear hHeld
      go_wp2_with fail
      go_roundw
      case rel => exact ⟨i + 1, S2, hi3, rfl, HS2, HF, HX4⟩
      case measure => exact HM.out
    · have hin : i = nch s := nch_eq (by omega) hi
      have HIN := Lib.hid hin
      have e1 : S.toList.isEmpty = true := emp_yes S (by omega)
      clear hin hbl
      go_wp2_with (at_builtin; refine wpList_append_own_at _ rfl _ _ 23 rfl w.heap.size 5 i0 (.int .u8 0) 1 1 Tryd.underlying23 hi0 hz0 hz1 hz2 rfl (by decide) _ _ _ rfl (HR.out.alloc _) ⟨wr.heap.size, 0, none⟩ 1 1 [.int .u8 0] rfl rfl ?c1 (one8 _) ?c3 ?c4 ?c5 ?_)
      case c1 => exact (cell_one_new _ _ _)
      case c3 => unfold maxLen; omega
      case c4 => omega
      case c5 => first | omega | (simp; omega)
      intro v' w1 hown hgrow _ _
      have P1 := grow_one (w := w) (y := 0) (HX.out.alloc _) (HR.out.alloc _) hgrow hown
      have hcr := conv_row (show (O ++ [0]).length = L + 1 by rw [List.length_append, HL.out]; rfl) P1.1
      have HX1 := Lib.hid P1.2
      clear P1 hown hgrow
      go_wp2_with fail
      go_ret
      exact ⟨by unfold outL; rw [← HIN.out, HO.out]; rfl, HX1.out⟩
set_option linter.unusedSimpArgs false in
set_option maxHeartbeats 2000000 in
theorem blocksOf_any (s : ByteArray) (w : World) (hs : s.size ≤ 100000) :
    Calls Tryd.prog 19 #[.string s] w fun e w' => e = .returned (.string (tb (outL s))) ∧ Ext w w' := by
  have HB := Lib.hid byte8_any
  go_enter Tryd.func19, Tryd.ntmps19
  go_wp2_with fail
  go_loopw [0, 3] (fun u v wr => ∃ (i : Nat) (S : ByteArray), i ≤ nch s ∧ u = .string S ∧ Hid (S = s.extract (i * 255) s.size) ∧ v = .string (tb (blkL s i)) ∧ Hid (Ext w wr)) (fun u _ _ => match u with | .string S => S.size | _ => 0)
  case atStart => exact ⟨0, s, by omega, rfl, Lib.hid (by rw [Nat.zero_mul]; simp), by rw [show blkL s 0 = [] from rfl, ← tb_nil], Lib.hid (Ext.refl _)⟩
  case round =>
    obtain ⟨i, S, hi, rfl, HS, rfl, HX⟩ := hrel
    have hSz : S.size = s.size - i * 255 := by rw [HS.out, ByteArray.size_extract]; omega
    have hbl := blkL_length s i
    have hi2 : i ≤ 400 := by unfold nch at hi; omega
    obtain ⟨T, hT⟩ : ∃ T, tb (blkL s i) = T := ⟨_, rfl⟩
    have HT := Lib.hid hT
    have hTs : T.size ≤ 102400 := by rw [← hT, tb_size]; omega
    rw [hT]
    clear hT hbl
    by_cases hlt : 255 < S.size
    · have hc : (chB s i).size = 255 := by rw [chB_size]; omega
      obtain ⟨hR1, hR2⟩ := chB_first HS.out hc (by omega)
      obtain ⟨R, hR⟩ : ∃ R, S.extract 0 255 = R := ⟨_, rfl⟩
      obtain ⟨S2, hS2⟩ : ∃ S2, S.extract 255 S.size = S2 := ⟨_, rfl⟩
      have HRr : Hid (R = chB s i) := Lib.hid (by rw [← hR, hR1])
      have HS2 : Hid (S2 = s.extract ((i + 1) * 255) s.size) := Lib.hid (by rw [← hS2, hR2])
      have hRs : R.size = 255 := by rw [HRr.out]; exact hc
      have HM : Hid (S2.size < S.size) := Lib.hid (by rw [← hS2, ByteArray.size_extract]; omega)
      have hcS : (255 : Int) ≤ (S.size : Int) := by omega
      have hB2 : ∀ w, Calls Tryd.prog 52 #[.int .i64 255] w fun e w' => e = .returned (.string (tb [UInt8.ofNat 255])) ∧ Ext w w' := fun w => HB.out 255 (by decide) w
      have h1s : (tb [UInt8.ofNat 255]).size = 1 := by rw [tb_size]; rfl
      obtain ⟨B1, hB1⟩ : ∃ B1, tb [UInt8.ofNat 255] = B1 := ⟨_, rfl⟩
      rw [hB1] at hB2 h1s
      have HB1 := Lib.hid hB1
      have HB2 := Lib.hid hB2
      have hTB : (T ++ B1).size ≤ 102401 := by rw [ByteArray.size_append]; omega
      have HBI : Hid (tb (blkL s (i + 1)) = T ++ B1 ++ R) := Lib.hid (by
        apply bts_ext
        rw [bts_cat, bts_cat, tb_list, ← HT.out, ← hB1, tb_list, tb_list, HRr.out]
        show blkL s i ++ _ = _
        rw [hc]; simp)
      have hi3 : i + 1 ≤ nch s := (nch_iff s i).2 (by omega)
      have hq1 : ¬ 9223372036854775807 < T.size + 1 := by omega
      have hq2 : ¬ 9223372036854775807 < T.size + 1 + 255 := by omega
      have hq3 : ¬ 9223372036854775807 < T.size + 256 := by omega
      have hq4 : ¬ 9223372036854775807 < (T ++ B1).size + 255 := by omega
      clear hc hR1 hR2 hSz hB1 hB2
      go_wp2_with fail
      refine wp_region_held_drew (S := fun w' => True) (by kernel_rfl) trivial (fun hHeld => ?_)
      clear hHeld
      have hHeld : True := trivial
      refine wpAnyH_take (i := 0) (v := ?_) rfl (by kernel_rfl) (by kernel_rfl) (by kernel_rfl) (fun _ _ _ h => h) (Or.inl ⟨by kernel_rfl, ?_⟩) hHeld ?_
      rotate_left
      · intro w hSw
        (try dsimp only at hSw)
        go_split_ands
        go_simp
        (try with_reducible rfl)
      try simp only [Act.put, List.getElem_toArray, List.getElem_cons_succ, List.getElem_cons_zero, List.setIfInBounds_toArray, List.set_cons_zero, List.set_cons_succ]
      refine wpAnyH_take (i := 3) (v := ?_) rfl (by kernel_rfl) (by kernel_rfl) (by kernel_rfl) (fun _ _ _ h => h) (Or.inl ⟨by kernel_rfl, ?_⟩) hHeld ?_
      rotate_left
      · intro w hSw
        (try dsimp only at hSw)
        go_split_ands
        go_simp
        (try with_reducible rfl)
      try simp only [Act.put, List.getElem_toArray, List.getElem_cons_succ, List.getElem_cons_zero, List.setIfInBounds_toArray, List.set_cons_zero, List.set_cons_succ]
      refine wpAnyH_take (i := 4) (v := ?_) rfl (by kernel_rfl) (by kernel_rfl) (by kernel_rfl) (fun _ _ _ h => h) (Or.inl ⟨by kernel_rfl, ?_⟩) hHeld ?_
      rotate_left
      · intro w hSw
        (try dsimp only at hSw)
        go_split_ands
        go_simp
        (try with_reducible rfl)
      try simp only [Act.put, List.getElem_toArray, List.getElem_cons_succ, List.getElem_cons_zero, List.setIfInBounds_toArray, List.set_cons_zero, List.set_cons_succ]
      refine wpAnyH_ready (rs := [1]) (by kernel_rfl) (by simp) ?_
      refine AllReadyH.cons rfl (fun KK hK => ?_) AllReadyH.nil
      clear hHeld
      go_simp
      with_reducible refine (HB2.out _).mono ?_
      rintro e w3 ⟨rfl, h⟩
      have HX3 := Lib.hid ((show Ext w wr.drew from Below.drew HX.out).trans h)
      clear h
      go_simp
      refine hK.out _ _ trivial (fun hHeld => ?_)
      clear hK KK
      try simp only [Act.put, List.getElem_toArray, List.getElem_cons_succ, List.getElem_cons_zero, List.setIfInBounds_toArray, List.set_cons_zero, List.set_cons_succ]
      refine wpAnyH_take (i := 2) (v := ?_) rfl (by kernel_rfl) (by kernel_rfl) (by kernel_rfl) (fun _ _ _ h => h) (Or.inl ⟨by kernel_rfl, ?_⟩) hHeld ?_
      rotate_left
      · intro w hSw
        (try dsimp only at hSw)
        go_split_ands
        go_simp
        (try with_reducible rfl)
      try simp only [Act.put, List.getElem_toArray, List.getElem_cons_succ, List.getElem_cons_zero, List.setIfInBounds_toArray, List.set_cons_zero, List.set_cons_succ]
      refine wpAnyH_take (i := 5) (v := ?_) rfl (by kernel_rfl) (by kernel_rfl) (by kernel_rfl) (fun _ _ _ h => h) (Or.inl ⟨by kernel_rfl, ?_⟩) hHeld ?_
      rotate_left
      · intro w hSw
        (try dsimp only at hSw)
        go_split_ands
        go_simp
        (try with_reducible rfl)
      try simp only [Act.put, List.getElem_toArray, List.getElem_cons_succ, List.getElem_cons_zero, List.setIfInBounds_toArray, List.set_cons_zero, List.set_cons_succ]
      refine wpAnyH_take (i := 6) (v := ?_) rfl (by kernel_rfl) (by kernel_rfl) (by kernel_rfl) (fun _ _ _ h => h) (Or.inl ⟨by kernel_rfl, ?_⟩) hHeld ?_
      rotate_left
      · intro w hSw
        (try dsimp only at hSw)
        go_split_ands
        go_simp
        (try with_reducible rfl)
      try simp only [Act.put, List.getElem_toArray, List.getElem_cons_succ, List.getElem_cons_zero, List.setIfInBounds_toArray, List.set_cons_zero, List.set_cons_succ]
      refine wpAnyH_done (by kernel_rfl) ?_ _
      clear hHeld
      go_wp2_with fail
      go_roundw
      case rel => exact ⟨i + 1, S2, hi3, rfl, HS2, by rw [HBI.out], HX3⟩
      case measure => exact HM.out
    · have hB0 : ∀ w, Calls Tryd.prog 52 #[.int .i64 0] w fun e w' => e = .returned (.string (tb [UInt8.ofNat 0])) ∧ Ext w w' := fun w => HB.out 0 (by decide) w
      have h0s : (tb [UInt8.ofNat 0]).size = 1 := by rw [tb_size]; rfl
      obtain ⟨B0, hB0e⟩ : ∃ B0, tb [UInt8.ofNat 0] = B0 := ⟨_, rfl⟩
      rw [hB0e] at hB0 h0s
      have HB0e := Lib.hid hB0e
      have HB0 := Lib.hid hB0
      clear hB0e hB0
      by_cases hz : S.size = 0
      · have e1 : S.toList.isEmpty = true := emp_yes S hz
        have HIN : Hid (i = nch s) := Lib.hid (nch_eq (by omega) hi)
        have HO : Hid (tb (outL s) = T ++ B0) := Lib.hid (by
          apply bts_ext
          rw [bts_cat, tb_list, ← HT.out, ← HB0e.out, tb_list, tb_list, HIN.out]; rfl)
        clear hz hSz
        go_wp2_with fail
        with_reducible refine (HB0.out _).mono ?_
        rintro e w3 ⟨rfl, h⟩
        have HX3 := Lib.hid (HX.out.trans h)
        clear h
        go_wp2_with fail
        go_ret
        exact ⟨by rw [HO.out]; rfl, HX3.out⟩
      · have e1 : S.toList.isEmpty = false := emp_no S hz
        have hcz : (chB s i).size = S.size := by rw [chB_size]; omega
        have hcc : chB s i = S := by
          have q := (chB_first HS.out hcz (by omega)).1
          rw [← q]; simp
        have HIN : Hid (i + 1 = nch s) := Lib.hid (by have h1 : i < nch s := (nch_iff s i).2 (by omega); exact nch_eq (by omega) h1)
        have hB2 := fun w => HB.out S.size (by omega) w
        have h1s : (tb [UInt8.ofNat S.size]).size = 1 := by rw [tb_size]; rfl
        obtain ⟨B1, hB1⟩ : ∃ B1, tb [UInt8.ofNat S.size] = B1 := ⟨_, rfl⟩
        rw [hB1] at hB2 h1s
        have HB2 := Lib.hid hB2
        have hTB : (T ++ B1).size ≤ 102401 := by rw [ByteArray.size_append]; omega
        have hTBS : (T ++ B1 ++ S).size ≤ 102700 := by rw [ByteArray.size_append]; omega
        have HO : Hid (tb (outL s) = T ++ B1 ++ S ++ B0) := Lib.hid (by
          apply bts_ext
          rw [bts_cat, bts_cat, bts_cat, tb_list, ← HT.out, ← HB0e.out, ← hB1, tb_list, tb_list, tb_list]
          unfold outL
          rw [← HIN.out]
          show (blkL s i ++ _) ++ _ = _
          rw [hcc]; simp)
        clear hB1 hB2 hcz hcc hz hSz
        go_wp2_with fail
        with_reducible refine (HB2.out _).mono ?_
        rintro e w2 ⟨rfl, h⟩
        have HX2 := Lib.hid (HX.out.trans h)
        clear h
        go_wp2_with fail
        with_reducible refine (HB0.out _).mono ?_
        rintro e w3 ⟨rfl, h⟩
        have HX3 := Lib.hid (HX2.out.trans h)
        clear h
        go_wp2_with fail
        go_ret
        exact ⟨by rw [HO.out]; rfl, HX3.out⟩
end Go.Proofs.YtdeiolagnheihaaDoor
