/- A row of bytes that grew out of a string: its block bears a mark behind its end. Appending strings to it. No function of the program is named. -/
import Derived.Test.YtdeiolagnheihaaDoorBlkLaw
import Derived.Lib.ConvBytes
import Derived.Laws.CopyRow
namespace Go.Proofs.YtdeiolagnheihaaDoor
open Go.RowKit
set_option maxRecDepth 100000
def Unfr (cur : Array Value) (fr : Nat × Nat) : Prop := ∀ j, j < cur.size → (decide (fr.1 ≤ j) && decide (j < fr.2)) = false
theorem storeCells_fr {P : Program} (g o : Nat) (t : TypeId) (fr : Nat × Nat) : ∀ (vs : List Value) (i : Nat) (cur : Array Value) (w : World), w.heap[g]? = some (.cells cur t fr) → Unfr cur fr → o + i + vs.length ≤ cur.size → (∀ v ∈ vs, v.oneCell' = true) →
    (storeCells ⟨g, o, none⟩ vs i).run P w = .ok () (w.setRow g (cur.toList.take (o + i) ++ vs ++ cur.toList.drop (o + i + vs.length)).toArray)
  | [], i, cur, w, hg, _, _, _ => by
    simp only [storeCells, List.append_nil, List.length_nil, Nat.add_zero, List.take_append_drop, Array.toArray_toList]
    rw [setRow_self w g cur t fr hg]
    rfl
  | v :: rest, i, cur, w, hg, hf, hl, h1 => by
    have hi : o + i < cur.size := by simp at hl; omega
    have hadd : (⟨g, o, none⟩ : Addr).add i = ⟨g, o + i, none⟩ := by unfold Addr.add; split <;> simp_all
    have hcell : w.cell? ⟨g, o + i, none⟩ = some cur[o + i] := by simp [World.cell?, hg, hi]
    have hfro : w.frozen? ⟨g, o + i, none⟩ = false := by have := hf (o + i) hi; simpa [World.frozen?, hg] using this
    have hst : (store ((⟨g, o, none⟩ : Addr).add i) v).run P w = .ok () (w.setRow g (cur.setIfInBounds (o + i) v)) := by
      rw [hadd, run_store P w _ v _ (h1 v (by simp)), hcell]
      simp [hfro, setCell_eq_setRow w g (o + i) cur t fr v hg]
    have ih := storeCells_fr (P := P) g o t fr rest (i + 1) (cur.setIfInBounds (o + i) v) (w.setRow g (cur.setIfInBounds (o + i) v)) (setRow_heap w g cur _ t _ hg) (fun j hj => hf j (by simpa using hj)) (by simp at hl ⊢; omega) (fun u hu => h1 u (List.mem_cons_of_mem _ hu))
    simp only [storeCells, Sem.run_bind, hst, Result.andThen_ok, ih, setRow_setRow]
    congr 3
    have e := list_seg_step cur.toList (o + i) v rest (by simp at hl ⊢; omega)
    simpa [Array.toList_setIfInBounds, Nat.add_assoc] using e
theorem run_append_room_fr {P : Program} {w : World} (t u ty e : TypeId) (i : TypeInfo) (ht : P.underlying t = some (.slice e)) (hu : P.underlying u = some .string) (hi : P.info? e = some i) (hs1 : i.size = 1)
    (g sLen sCap : Nat) (cur : Array Value) (fr : Nat × Nat) (hg : w.heap[g]? = some (.cells cur e fr)) (hfr : Unfr cur fr) (s : ByteArray)
    (hroom : sLen + s.size ≤ sCap) (hfit : sLen + s.size ≤ cur.size) :
    (Builtin.append_ #[t, u] ty #[.slice (some ⟨g, 0, none⟩) sLen sCap, .string s]).run P w =
      .ok (.slice (some ⟨g, 0, none⟩) (sLen + s.size) sCap) (w.setRow g (cur.toList.take sLen ++ Lib.strCells s ++ cur.toList.drop (sLen + s.size)).toArray) := by
  have hf := Lib.run_firstCells_string (P := P) w 1 s
  have hst := storeCells_fr (P := P) g sLen e fr (Lib.strCells s) 0 cur w hg hfr (by simpa [Lib.strCells_length] using hfit) (Lib.strCells_oneCell s)
  simp only [Nat.add_zero, Lib.strCells_length] at hst
  simp [Builtin.append_, run_underlying ht, run_underlying hu, sizeOf, typeInfo, hi, hs1, Builtin.lenOf, hroom, hf, Addr.add_lit, hst]
/-- a row of bytes in a block of its own, whose mark marks none of its cells -/
def MRow (w : World) (base : Nat) (v : Value) (l : List UInt8) : Prop :=
  ∃ g cap cur fr, v = .slice (some ⟨g, 0, none⟩) l.length cap ∧ base ≤ g ∧ w.heap[g]? = some (.cells cur 5 fr) ∧ Unfr cur fr ∧ l.length ≤ cap ∧ cap ≤ maxLen ∧ cur.size = cap ∧ cur.toList.take l.length = bytesV l
theorem MRow.keeps {S : Nat → Prop} {w w' : World} {base : Nat} {v : Value} {l : List UInt8} (h : MRow w base v l) (hk : Keeps S w w') (hn : ∀ k, v.ownBlock = some k → ¬ S k) : MRow w' base v l := by
  obtain ⟨g, cap, cur, fr, rfl, h1, h2, r⟩ := h
  exact ⟨g, cap, cur, fr, rfl, h1, by rw [hk.block g (lt_of_block h2) (hn g rfl)]; exact h2, r⟩
theorem MRow.ext {w w' : World} {base : Nat} {v : Value} {l : List UInt8} (h : MRow w base v l) (hE : Ext w w') : MRow w' base v l := h.keeps (S := fun _ => False) hE.keeps (fun _ _ => id)
theorem MRow.own {w : World} {base k : Nat} {v : Value} {l : List UInt8} (h : MRow w base v l) (hk : v.ownBlock = some k) : base ≤ k ∧ k < w.heap.size := by
  obtain ⟨g, cap, cur, fr, rfl, h1, h2, _⟩ := h
  obtain rfl : g = k := Option.some.inj (show some g = some k from hk)
  exact ⟨h1, lt_of_block h2⟩
theorem MRow.cell {w : World} {base j : Nat} {v : Value} {l : List UInt8} (h : MRow w base v l) (hj : j < l.length) : ∃ g cap, v = .slice (some ⟨g, 0, none⟩) l.length cap ∧ w.cell? ⟨g, j, none⟩ = (bytesV l)[j]? := by
  obtain ⟨g, cap, cur, fr, rfl, h1, h2, _, h4, h5, h6, h7⟩ := h
  refine ⟨g, cap, rfl, ?_⟩
  rw [cell_of_row w g j cur _ fr h2, ← h7, List.getElem?_take_of_lt hj]
  simp
theorem MRow.conv {w : World} {base : Nat} {v : Value} {l : List UInt8} (h : MRow w base v l) : (convert 23 9 v).run Tryd.prog w = .ok (.string (tb l)) w := by
  rw [tb_eq]
  have hc := h
  obtain ⟨g, cap, cur, fr, rfl, h1, h2, _⟩ := h
  refine run_convert_bytes_back (P := Tryd.prog) w 23 9 5 ⟨g, 0, none⟩ cap l Tryd.underlying23 Tryd.underlying5 Tryd.underlying9 (fun j hj => ?_)
  obtain ⟨g', cap', e1, e2⟩ := hc.cell hj
  injection e1 with e1
  injection e1 with e1
  injection e1 with e1
  subst e1
  rw [add_plain, e2, bytesV_get _ j hj]
/-- []byte(s) -/
theorem MRow.made (w : World) (s : ByteArray) (hs : s.size ≤ maxLen) : ∃ v w', (convert 9 23 (.string s)).run Tryd.prog w = .ok v w' ∧ MRow w' w.heap.size v s.data.toList ∧ Ext w w' := by
  have hge := grownCap_ge w s.size 0 5
  have hcm := grownCap_le_maxLen w s.size 0 5 hs
  have hsz : (Lib.bytesCells w 5 s).size = grownCap w s.size 0 5 := by
    unfold Lib.bytesCells
    rw [Array.size_append, Array.size_map, Array.size_replicate]
    show s.size + _ = _
    omega
  refine ⟨_, _, Lib.run_convert_string_bytes (P := Tryd.prog) w 9 23 5 s Tryd.underlying9 Tryd.underlying23 Tryd.underlying5, ⟨w.heap.size, _, _, _, by rw [list_size], Nat.le_refl _, Lib.bytesWorld_at_new w _ s, ?_, by rw [list_size]; exact hge, hcm, hsz, ?_⟩, ?_⟩
  · intro j hj
    simp only [Bool.and_eq_false_iff, decide_eq_false_iff_not]
    left; omega
  · have e : (Lib.bytesCells w 5 s).toList = bytesV s.data.toList ++ (Array.replicate (grownCap w s.size 0 5 - s.size) (Value.int .u8 0)).toList := by
      unfold Lib.bytesCells bytesV; simp
    rw [e, List.take_append_of_le_length (by rw [bytesV_length]; exact Nat.le_refl _), List.take_of_length_le (by rw [bytesV_length]; exact Nat.le_refl _)]
  · exact ⟨rfl, rfl, rfl, by rw [Lib.bytesWorld_size]; omega, fun k hk => Lib.bytesWorld_at_old w _ s k hk⟩
theorem run_append_mrow {w : World} (base : Nat) (i : TypeInfo) (ty : TypeId) (hi : Tryd.prog.info? 5 = some i) (hz : i.zero = some (.int .u8 0)) (hsize : i.size = 1) (hby : i.bytes = 1)
    (v : Value) (l : List UInt8) (h : MRow w base v l) (s : ByteArray) (h63 : l.length + s.size ≤ maxLen) (hbytes : l.length + s.size ≤ 140737488355328) (hbase : base ≤ w.heap.size) :
    ∃ v' w', (Builtin.append_ #[23, 9] ty #[v, .string s]).run Tryd.prog w = .ok v' w' ∧ MRow w' base v' (l ++ s.data.toList) ∧ w.grownBy w' v.ownBlock ∧ (v'.ownBlock = v.ownBlock ∨ v'.ownBlock = some w.heap.size) := by
  have hrow := h
  obtain ⟨g, cap, cur, fr, rfl, hbg, hg, hfr, hnc, hcm, hcs, htake⟩ := h
  have hl : (l ++ s.data.toList).length = l.length + s.size := by rw [List.length_append, list_size]
  have hbl : (bytesV l).length = l.length := bytesV_length l
  have hcat : bytesV l ++ Lib.strCells s = bytesV (l ++ s.data.toList) := by rw [strCells_eq]; simp [bytesV]
  by_cases hroom : l.length + s.size ≤ cap
  · have hr := run_append_room_fr (P := Tryd.prog) 23 9 ty 5 i Tryd.underlying23 Tryd.underlying9 hi hsize g l.length cap cur fr hg hfr s hroom (by omega)
    have hsz : (cur.toList.take l.length ++ Lib.strCells s ++ cur.toList.drop (l.length + s.size)).toArray.size = cur.size := by
      simp only [List.size_toArray, List.length_append, List.length_take, List.length_drop, Array.length_toList, Lib.strCells_length]; omega
    refine ⟨_, _, hr, ⟨g, cap, _, fr, by rw [hl], hbg, setRow_heap w g cur _ _ fr hg, ?_, by rw [hl]; exact hroom, hcm, by rw [hsz]; exact hcs, ?_⟩, ⟨rfl, rfl, rfl, by simp, fun k _ hk => setRow_other w g k _ (fun e => hk (by simp [Value.ownBlock, e]))⟩, .inl rfl⟩
    · intro j hj; rw [hsz] at hj; exact hfr j hj
    · show List.take _ (cur.toList.take l.length ++ Lib.strCells s ++ cur.toList.drop (l.length + s.size)) = _
      rw [htake, hcat, List.take_append_of_le_length (by rw [bytesV_length]; exact Nat.le_refl _), List.take_of_length_le (by rw [bytesV_length]; exact Nat.le_refl _)]
  · have holds : ∀ j u, (bytesV l)[j]? = some u → w.cell? ((⟨g, 0, none⟩ : Addr).add j) = some u := by
      intro j u hu
      have hj : j < l.length := by rw [← hbl]; exact (List.getElem?_eq_some_iff.1 hu).1
      obtain ⟨g', cap', e1, e2⟩ := hrow.cell hj
      injection e1 with e1
      injection e1 with e1
      injection e1 with e1
      subst e1
      rw [add_plain, e2, hu]
    have hr := Lib.run_append_grow_string (P := Tryd.prog) w 23 9 ty 5 i (.int .u8 0) Tryd.underlying23 Tryd.underlying9 hi hz ⟨g, 0, none⟩ l.length cap (bytesV l) (by rw [hsize, hbl]; omega) holds s (by omega) (by unfold maxLen at h63; omega) (by rw [hby]; exact growslice_fits (by omega) (by omega))
    have hge := grownCap_ge w (l.length + s.size) cap 5
    have hcm2 := grownCap_le_maxLen w (l.length + s.size) cap 5 h63
    have hz1 : (Value.int IntKind.u8 0).cells.size = 1 := rfl
    have hsz : ((bytesV l).toArray ++ (Lib.strCells s).toArray ++ Builtin.zeroCells (Value.int .u8 0).cells (grownCap w (l.length + s.size) cap 5 - (l.length + s.size))).size = grownCap w (l.length + s.size) cap 5 := by
      simp only [Array.size_append, List.size_toArray, size_zeroCells, hz1, hbl, Lib.strCells_length]; omega
    refine ⟨_, _, hr, ⟨w.heap.size, _, _, (0, 0), by rw [hl], hbase, heap_alloc_new w.drew _, ?_, by rw [hl]; exact hge, hcm2, hsz, ?_⟩, ⟨rfl, rfl, rfl, by simp, fun k hk _ => Below.heap_alloc w.drew _ k hk⟩, .inr rfl⟩
    · intro j _; simp
    · simp only [Array.toList_append, List.append_assoc]
      rw [← List.append_assoc, hcat, List.take_append_of_le_length (by rw [bytesV_length]; exact Nat.le_refl _), List.take_of_length_le (by rw [bytesV_length]; exact Nat.le_refl _)]
theorem wpList_append_mrow {w : World} {ops : Array Oper} {rest : List Oper} {o : Oper} {a : Act} {Q : Exit → Act → World → Prop} (hgd : o.guard = none) (sl x : Operand)
    (ho : o.op = .call { callee := .builtin .append, args := #[sl, x], argTypes := #[23, 9] })
    (base : Nat) (i : TypeInfo) (hi : Tryd.prog.info? 5 = some i) (hz : i.zero = some (.int .u8 0)) (hsize : i.size = 1) (hby : i.bytes = 1)
    (v : Value) (l : List UInt8) (hs : a.eval sl = v) (h : MRow w base v l) (s : ByteArray) (hx : a.eval x = .string s)
    (h63 : l.length + s.size ≤ maxLen) (hbytes : l.length + s.size ≤ 140737488355328) (hbase : base ≤ w.heap.size)
    (hq : ∀ v' w', MRow w' base v' (l ++ s.data.toList) → w.grownBy w' v.ownBlock → (v'.ownBlock = v.ownBlock ∨ v'.ownBlock = some w.heap.size) → wpList Tryd.prog ops Q rest (a.put o.dst v') w') : wpList Tryd.prog ops Q (o :: rest) a w := by
  refine wpList_plain hgd fun K hK => ?_
  obtain ⟨v', w', hr, h2, h3, h4⟩ := run_append_mrow (w := w) base i o.type hi hz hsize hby v l h s h63 hbytes hbase
  unfold Oper.wp execOp
  simp only [ho, resolve, invoke, builtin, Sem.run_bind, Sem.run_pure, Result.andThen_ok, List.map_toArray, List.map_cons, List.map_nil, hs, hx, hr]
  exact hK _ _ (hq v' w' h2 h3 h4)
end Go.Proofs.YtdeiolagnheihaaDoor
