/-
  A row of bytes that grew out of a string: its block bears a mark behind its end. Appending strings to it. No function of the program is named.
  inflate: a reader of a packed text in memory: must, get, tree, next.
  append of a text's bytes to a row of one's own: where the new row lies. No function of the program is named.
  inflate: what a reader of a packed text does between two blocks; a stored block.
  inflate: tokens: what stands beside a reader on its way: a tree, a closure for distances; the tables; the plain machine's steps.
  A packed text read: blocks, one behind the other: what they may not pass. No function of the program is named.
-/
import Derived.Test.YtnhbjgmfbcedaaaDoorDeflateFixedG4
import Derived.Lib.ConvBytes
import Derived.Laws.CopyRow
import Derived.Deep.RegionHeld3
import Derived.Lib.AppendStr
import Derived.Deep.AppendLies
namespace Go.Proofs.YtnhbjgmfbcedaaaDoor
open Go.RowKit
set_option linter.unusedSimpArgs false
set_option linter.unusedVariables false
set_option maxRecDepth 100000
def Unfr (cur : Array Value) (fr : Nat × Nat) : Prop := ∀ j, j < cur.size → (decide (fr.1 ≤ j) && decide (j < fr.2)) = false
theorem storeCells_fr {P : Program} (g o : Nat) (t : TypeId) (fr : Nat × Nat) : ∀ (vs : List Value) (i : Nat) (cur : Array Value) (w : World), w.heap[g]? = some (.cells cur t fr) → Unfr cur fr → o + i + vs.length ≤ cur.size → (∀ v ∈ vs, v.oneCell' = true) →
    (storeCells ⟨g, o, none⟩ vs i).run P w = .ok () (w.setRow g (cur.toList.take (o + i) ++ vs ++ cur.toList.drop (o + i + vs.length)).toArray)
  | [], i, cur, w, hg, _, _, _ => by
    simp only [storeCells, List.append_nil, List.length_nil, Nat.add_zero, List.take_append_drop, Array.toArray_toList]
    rw [setRow_self w g cur t fr hg]
    rfl
  | v :: rest, i, cur, w, hg, hf, hl, h1 => by
    have hi : o + i < cur.size := by simp at hl; omega
    have hadd : (⟨g, o, none⟩ : Addr).add i = ⟨g, o + i, none⟩ := by unfold Addr.add; split <;> simp_all
    have hcell : w.cell? ⟨g, o + i, none⟩ = some cur[o + i] := by simp [World.cell?, hg, hi]
    have hfro : w.frozen? ⟨g, o + i, none⟩ = false := by have := hf (o + i) hi; simpa [World.frozen?, hg] using this
    have hst : (store ((⟨g, o, none⟩ : Addr).add i) v).run P w = .ok () (w.setRow g (cur.setIfInBounds (o + i) v)) := by
      rw [hadd, run_store P w _ v _ (h1 v (by simp)), hcell]
      simp [hfro, setCell_eq_setRow w g (o + i) cur t fr v hg]
    have ih := storeCells_fr (P := P) g o t fr rest (i + 1) (cur.setIfInBounds (o + i) v) (w.setRow g (cur.setIfInBounds (o + i) v)) (setRow_heap w g cur _ t _ hg) (fun j hj => hf j (by simpa using hj)) (by simp at hl ⊢; omega) (fun u hu => h1 u (List.mem_cons_of_mem _ hu))
    simp only [storeCells, Sem.run_bind, hst, Result.andThen_ok, ih, setRow_setRow]
    congr 3
    have e := list_seg_step cur.toList (o + i) v rest (by simp at hl ⊢; omega)
    simpa [Array.toList_setIfInBounds, Nat.add_assoc] using e
theorem run_append_room_fr {P : Program} {w : World} (t u ty e : TypeId) (i : TypeInfo) (ht : P.underlying t = some (.slice e)) (hu : P.underlying u = some .string) (hi : P.info? e = some i) (hs1 : i.size = 1)
    (g sLen sCap : Nat) (cur : Array Value) (fr : Nat × Nat) (hg : w.heap[g]? = some (.cells cur e fr)) (hfr : Unfr cur fr) (s : ByteArray)
    (hroom : sLen + s.size ≤ sCap) (hfit : sLen + s.size ≤ cur.size) :
    (Builtin.append_ #[t, u] ty #[.slice (some ⟨g, 0, none⟩) sLen sCap, .string s]).run P w =
      .ok (.slice (some ⟨g, 0, none⟩) (sLen + s.size) sCap) (w.setRow g (cur.toList.take sLen ++ Lib.strCells s ++ cur.toList.drop (sLen + s.size)).toArray) := by
  have hf := Lib.run_firstCells_string (P := P) w 1 s
  have hst := storeCells_fr (P := P) g sLen e fr (Lib.strCells s) 0 cur w hg hfr (by simpa [Lib.strCells_length] using hfit) (Lib.strCells_oneCell s)
  simp only [Nat.add_zero, Lib.strCells_length] at hst
  simp [Builtin.append_, run_underlying ht, run_underlying hu, sizeOf, typeInfo, hi, hs1, Builtin.lenOf, hroom, hf, Addr.add_lit, hst]
/-- a row of bytes in a block of its own, whose mark marks none of its cells -/
def MRow (w : World) (base : Nat) (v : Value) (l : List UInt8) : Prop :=
  ∃ g cap cur fr, v = .slice (some ⟨g, 0, none⟩) l.length cap ∧ base ≤ g ∧ w.heap[g]? = some (.cells cur 5 fr) ∧ Unfr cur fr ∧ l.length ≤ cap ∧ cap ≤ maxLen ∧ cur.size = cap ∧ cur.toList.take l.length = bytesV l
theorem MRow.keeps {S : Nat → Prop} {w w' : World} {base : Nat} {v : Value} {l : List UInt8} (h : MRow w base v l) (hk : Keeps S w w') (hn : ∀ k, v.ownBlock = some k → ¬ S k) : MRow w' base v l := by
  obtain ⟨g, cap, cur, fr, rfl, h1, h2, r⟩ := h
  exact ⟨g, cap, cur, fr, rfl, h1, by rw [hk.block g (lt_of_block h2) (hn g rfl)]; exact h2, r⟩
theorem MRow.ext {w w' : World} {base : Nat} {v : Value} {l : List UInt8} (h : MRow w base v l) (hE : Ext w w') : MRow w' base v l := h.keeps (S := fun _ => False) hE.keeps (fun _ _ => id)
theorem MRow.own {w : World} {base k : Nat} {v : Value} {l : List UInt8} (h : MRow w base v l) (hk : v.ownBlock = some k) : base ≤ k ∧ k < w.heap.size := by
  obtain ⟨g, cap, cur, fr, rfl, h1, h2, _⟩ := h
  obtain rfl : g = k := Option.some.inj (show some g = some k from hk)
  exact ⟨h1, lt_of_block h2⟩
theorem MRow.cell {w : World} {base j : Nat} {v : Value} {l : List UInt8} (h : MRow w base v l) (hj : j < l.length) : ∃ g cap, v = .slice (some ⟨g, 0, none⟩) l.length cap ∧ w.cell? ⟨g, j, none⟩ = (bytesV l)[j]? := by
  obtain ⟨g, cap, cur, fr, rfl, h1, h2, _, h4, h5, h6, h7⟩ := h
  refine ⟨g, cap, rfl, ?_⟩
  rw [cell_of_row w g j cur _ fr h2, ← h7, List.getElem?_take_of_lt hj]
  simp
theorem MRow.conv {w : World} {base : Nat} {v : Value} {l : List UInt8} (h : MRow w base v l) : (convert 61 9 v).run Tryd.prog w = .ok (.string (tb l)) w := by
  rw [tb_eq]
  have hc := h
  obtain ⟨g, cap, cur, fr, rfl, h1, h2, _⟩ := h
  refine run_convert_bytes_back (P := Tryd.prog) w 61 9 5 ⟨g, 0, none⟩ cap l Tryd.underlying61 Tryd.underlying5 Tryd.underlying9 (fun j hj => ?_)
  obtain ⟨g', cap', e1, e2⟩ := hc.cell hj
  injection e1 with e1
  injection e1 with e1
  injection e1 with e1
  subst e1
  rw [add_plain, e2, bytesV_get _ j hj]
/-- []byte(s) -/
theorem MRow.made (w : World) (s : ByteArray) (hs : s.size ≤ maxLen) : ∃ v w', (convert 9 61 (.string s)).run Tryd.prog w = .ok v w' ∧ MRow w' w.heap.size v s.data.toList ∧ Ext w w' := by
  have hge := grownCap_ge w s.size 0 5
  have hcm := grownCap_le_maxLen w s.size 0 5 hs
  have hsz : (Lib.bytesCells w 5 s).size = grownCap w s.size 0 5 := by
    unfold Lib.bytesCells
    rw [Array.size_append, Array.size_map, Array.size_replicate]
    show s.size + _ = _
    omega
  refine ⟨_, _, Lib.run_convert_string_bytes (P := Tryd.prog) w 9 61 5 s Tryd.underlying9 Tryd.underlying61 Tryd.underlying5, ⟨w.heap.size, _, _, _, by rw [list_size], Nat.le_refl _, Lib.bytesWorld_at_new w _ s, ?_, by rw [list_size]; exact hge, hcm, hsz, ?_⟩, ?_⟩
  · intro j hj
    simp only [Bool.and_eq_false_iff, decide_eq_false_iff_not]
    left; omega
  · have e : (Lib.bytesCells w 5 s).toList = bytesV s.data.toList ++ (Array.replicate (grownCap w s.size 0 5 - s.size) (Value.int .u8 0)).toList := by
      unfold Lib.bytesCells bytesV; simp
    rw [e, List.take_append_of_le_length (by rw [bytesV_length]; exact Nat.le_refl _), List.take_of_length_le (by rw [bytesV_length]; exact Nat.le_refl _)]
  · exact ⟨rfl, rfl, rfl, by rw [Lib.bytesWorld_size]; omega, fun k hk => Lib.bytesWorld_at_old w _ s k hk⟩
theorem run_append_mrow {w : World} (base : Nat) (i : TypeInfo) (ty : TypeId) (hi : Tryd.prog.info? 5 = some i) (hz : i.zero = some (.int .u8 0)) (hsize : i.size = 1) (hby : i.bytes = 1)
    (v : Value) (l : List UInt8) (h : MRow w base v l) (s : ByteArray) (h63 : l.length + s.size ≤ maxLen) (hbytes : l.length + s.size ≤ 140737488355328) (hbase : base ≤ w.heap.size) :
    ∃ v' w', (Builtin.append_ #[61, 9] ty #[v, .string s]).run Tryd.prog w = .ok v' w' ∧ MRow w' base v' (l ++ s.data.toList) ∧ w.grownBy w' v.ownBlock ∧ (v'.ownBlock = v.ownBlock ∨ v'.ownBlock = some w.heap.size) := by
  have hrow := h
  obtain ⟨g, cap, cur, fr, rfl, hbg, hg, hfr, hnc, hcm, hcs, htake⟩ := h
  have hl : (l ++ s.data.toList).length = l.length + s.size := by rw [List.length_append, list_size]
  have hbl : (bytesV l).length = l.length := bytesV_length l
  have hcat : bytesV l ++ Lib.strCells s = bytesV (l ++ s.data.toList) := by rw [strCells_eq]; simp [bytesV]
  by_cases hroom : l.length + s.size ≤ cap
  · have hr := run_append_room_fr (P := Tryd.prog) 61 9 ty 5 i Tryd.underlying61 Tryd.underlying9 hi hsize g l.length cap cur fr hg hfr s hroom (by omega)
    have hsz : (cur.toList.take l.length ++ Lib.strCells s ++ cur.toList.drop (l.length + s.size)).toArray.size = cur.size := by
      simp only [List.size_toArray, List.length_append, List.length_take, List.length_drop, Array.length_toList, Lib.strCells_length]; omega
    refine ⟨_, _, hr, ⟨g, cap, _, fr, by rw [hl], hbg, setRow_heap w g cur _ _ fr hg, ?_, by rw [hl]; exact hroom, hcm, by rw [hsz]; exact hcs, ?_⟩, ⟨rfl, rfl, rfl, by simp, fun k _ hk => setRow_other w g k _ (fun e => hk (by simp [Value.ownBlock, e]))⟩, .inl rfl⟩
    · intro j hj; rw [hsz] at hj; exact hfr j hj
    · show List.take _ (cur.toList.take l.length ++ Lib.strCells s ++ cur.toList.drop (l.length + s.size)) = _
      rw [htake, hcat, List.take_append_of_le_length (by rw [bytesV_length]; exact Nat.le_refl _), List.take_of_length_le (by rw [bytesV_length]; exact Nat.le_refl _)]
  · have holds : ∀ j u, (bytesV l)[j]? = some u → w.cell? ((⟨g, 0, none⟩ : Addr).add j) = some u := by
      intro j u hu
      have hj : j < l.length := by rw [← hbl]; exact (List.getElem?_eq_some_iff.1 hu).1
      obtain ⟨g', cap', e1, e2⟩ := hrow.cell hj
      injection e1 with e1
      injection e1 with e1
      injection e1 with e1
      subst e1
      rw [add_plain, e2, hu]
    have hr := Lib.run_append_grow_string (P := Tryd.prog) w 61 9 ty 5 i (.int .u8 0) Tryd.underlying61 Tryd.underlying9 hi hz ⟨g, 0, none⟩ l.length cap (bytesV l) (by rw [hsize, hbl]; omega) holds s (by omega) (by unfold maxLen at h63; omega) (by rw [hby]; exact growslice_fits (by omega) (by omega))
    have hge := grownCap_ge w (l.length + s.size) cap 5
    have hcm2 := grownCap_le_maxLen w (l.length + s.size) cap 5 h63
    have hz1 : (Value.int IntKind.u8 0).cells.size = 1 := rfl
    have hsz : ((bytesV l).toArray ++ (Lib.strCells s).toArray ++ Builtin.zeroCells (Value.int .u8 0).cells (grownCap w (l.length + s.size) cap 5 - (l.length + s.size))).size = grownCap w (l.length + s.size) cap 5 := by
      simp only [Array.size_append, List.size_toArray, size_zeroCells, hz1, hbl, Lib.strCells_length]; omega
    refine ⟨_, _, hr, ⟨w.heap.size, _, _, (0, 0), by rw [hl], hbase, heap_alloc_new w.drew _, ?_, by rw [hl]; exact hge, hcm2, hsz, ?_⟩, ⟨rfl, rfl, rfl, by simp, fun k hk _ => Below.heap_alloc w.drew _ k hk⟩, .inr rfl⟩
    · intro j _; simp
    · simp only [Array.toList_append, List.append_assoc]
      rw [← List.append_assoc, hcat, List.take_append_of_le_length (by rw [bytesV_length]; exact Nat.le_refl _), List.take_of_length_le (by rw [bytesV_length]; exact Nat.le_refl _)]
theorem wpList_append_mrow {w : World} {ops : Array Oper} {rest : List Oper} {o : Oper} {a : Act} {Q : Exit → Act → World → Prop} (hgd : o.guard = none) (sl x : Operand)
    (ho : o.op = .call { callee := .builtin .append, args := #[sl, x], argTypes := #[61, 9] })
    (base : Nat) (i : TypeInfo) (hi : Tryd.prog.info? 5 = some i) (hz : i.zero = some (.int .u8 0)) (hsize : i.size = 1) (hby : i.bytes = 1)
    (v : Value) (l : List UInt8) (hs : a.eval sl = v) (h : MRow w base v l) (s : ByteArray) (hx : a.eval x = .string s)
    (h63 : l.length + s.size ≤ maxLen) (hbytes : l.length + s.size ≤ 140737488355328) (hbase : base ≤ w.heap.size)
    (hq : ∀ v' w', MRow w' base v' (l ++ s.data.toList) → w.grownBy w' v.ownBlock → (v'.ownBlock = v.ownBlock ∨ v'.ownBlock = some w.heap.size) → wpList Tryd.prog ops Q rest (a.put o.dst v') w') : wpList Tryd.prog ops Q (o :: rest) a w := by
  refine wpList_plain hgd fun K hK => ?_
  obtain ⟨v', w', hr, h2, h3, h4⟩ := run_append_mrow (w := w) base i o.type hi hz hsize hby v l h s h63 hbytes hbase
  unfold Oper.wp execOp
  simp only [ho, resolve, invoke, builtin, Sem.run_bind, Sem.run_pure, Result.andThen_ok, List.map_toArray, List.map_cons, List.map_nil, hs, hx, hr]
  exact hK _ _ (hq v' w' h2 h3 h4)
end Go.Proofs.YtnhbjgmfbcedaaaDoor
namespace Go.Proofs.YtnhbjgmfbcedaaaDoor
open Go.RowKit
set_option linter.unusedSimpArgs false
set_option linter.unusedVariables false
set_option maxRecDepth 100000
/-- what is thrown -/
def failV (a : Addr) : Value := .iface 57 (.agg #[sentV a])
def thrown (a : Addr) : Ending := .panicked [{ v := failV a, recovered := false }]
structure IAt (w : World) (R B : Nat) (s : ByteArray) (a : Nat) (v : Value) (out : List UInt8) (most : Nat) : Prop where
  bk : Bk w R #[.pointer (some ⟨B, 0, none⟩), v, .int .i64 (most : Int)]
  rd : RAt w B 0 s a
  row : w.ownsRow 0 5 1 v out.length (bytesV out)
  rb : R ≠ B
  rv : v.ownBlock ≠ some R
  bv : v.ownBlock ≠ some B
structure IStep (w w' : World) (R B : Nat) (v v' : Value) : Prop where
  keeps : Keeps (fun k => k = R ∨ k = B ∨ v.ownBlock = some k) w w'
  new : ∀ k, v'.ownBlock = some k → v.ownBlock = some k ∨ w.heap.size ≤ k
theorem must_yes (p e : Value) (w : World) : Calls Tryd.prog 106 #[p, .bool true, e] w fun r w' => r = .returned (.tuple #[]) ∧ w = w' := by
  go_enter Tryd.func106, Tryd.ntmps106
  go_wp2_with fail
  go_end0
  exact ⟨rfl, rfl⟩
theorem must_no (p : Value) (a : Addr) (w : World) : Calls Tryd.prog 106 #[p, .bool false, sentV a] w fun r w' => r = thrown a ∧ w = w' := by
  unfold sentV
  go_enter Tryd.func106, Tryd.ntmps106
  go_wp2_with fail
  exact ⟨rfl, rfl, rfl⟩
theorem IStep.refl (w : World) (R B : Nat) (v : Value) : IStep w w R B v v := ⟨Keeps.refl _ _, fun _ h => .inl h⟩
theorem IStep.trans {a b c : World} {R B : Nat} {u v x : Value} (h : IStep a b R B u v) (k : IStep b c R B v x) : IStep a c R B u x := by
  refine ⟨h.keeps.trans k.keeps ?_, ?_⟩
  · intro i hi q
    rcases q with q | q | q
    · exact .inl q
    · exact .inr (.inl q)
    · rcases h.new i q with r | r
      · exact .inr (.inr r)
      · omega
  · intro i q
    rcases k.new i q with r | r
    · exact h.new i r
    · have := h.keeps.size; exact .inr (by omega)
theorem IStep.rd {w w' : World} {R B : Nat} {v : Value} (h : RStep w w' B 0) : IStep w w' R B v v := ⟨h.keeps.mono fun _ _ q => .inr (.inl q), fun _ q => .inl q⟩
theorem IStep.ext {w w' : World} {R B : Nat} {v : Value} (h : Ext w w') : IStep w w' R B v v := ⟨h.keeps, fun _ q => .inl q⟩
theorem IAt.size {w : World} {R B a most : Nat} {s : ByteArray} {v : Value} {out : List UInt8} (h : IAt w R B s a v out most) : s.size ≤ 1099511627776 := h.rd.size
theorem IAt.read {w w' : World} {R B a a' most : Nat} {s : ByteArray} {v : Value} {out : List UInt8} (h : IAt w R B s a v out most) (hR : RAt w' B 0 s a') (hS : RStep w w' B 0) : IAt w' R B s a' v out most :=
  ⟨h.bk.keeps hS.keeps h.rb, hR, ownsRow_kept h.row hS.keeps (fun k hk e => h.bv (by rw [hk, e])), h.rb, h.rv, h.bv⟩
theorem IAt.keep {w w' : World} {R B a most : Nat} {s : ByteArray} {v : Value} {out : List UInt8} {S : Nat → Prop} (h : IAt w R B s a v out most) (hk : Keeps S w w') (hR : ¬ S R) (hB : ¬ S B) (hv : ∀ k, v.ownBlock = some k → ¬ S k) : IAt w' R B s a v out most :=
  ⟨h.bk.keeps hk hR, ⟨(hk.cell (p := ⟨B, 0, none⟩) h.rd.lt hB).trans h.rd.c0, (hk.cell (p := ⟨B, 0 + 1, none⟩) h.rd.lt hB).trans h.rd.c1, (hk.frozen (p := ⟨B, 0 + 1, none⟩) h.rd.lt hB).trans h.rd.f1, h.rd.size, h.rd.le⟩, ownsRow_kept h.row hk hv, h.rb, h.rv, h.bv⟩
theorem IAt.ext {w w' : World} {R B a most : Nat} {s : ByteArray} {v : Value} {out : List UInt8} (h : IAt w R B s a v out most) (hE : Ext w w') : IAt w' R B s a v out most :=
  h.keep (S := fun _ => False) hE.keeps id id (fun _ _ => id)
theorem Errs.at {w0 w : World} {E : Nat → Addr} (hE : Errs w0 E) (hX : Ext w0 w) : w.cell? ⟨1, 0, none⟩ = some (sentV (E 0)) ∧ w.cell? ⟨0, 0, none⟩ = some (sentV (E 1)) :=
  ⟨(hE.ext hX).var 0 (by decide), (hE.ext hX).var 1 (by decide)⟩
theorem rget_yes (R B a k n : Nat) (s : ByteArray) (v : Value) (out : List UInt8) (most : Nat) (w0 w : World) (E : Nat → Addr) (hE : Errs w0 E) (hX : Ext w0 w) (hB : w0.heap.size ≤ B) (hI : IAt w R B s a v out most) (hk : k ≤ 16) (a' : Nat) (hg : Inf.get s.data.toList k a = .ok (n, a')) :
    Calls Tryd.prog 76 #[.pointer (some ⟨R, 0, none⟩), .int .i64 (k : Int)] w fun e w' => e = .returned (.int .i64 (n : Int)) ∧ RAt w' B 0 s a' ∧ RStep w w' B 0 := by
  obtain ⟨rfl, h2, h3, rfl⟩ := Inf.get_ok hg
  rw [list_size] at h2
  have hr := hI.rd
  have c0 := hI.bk.cell 0
  have hE2 := Lib.hid hE
  have hX2 := Lib.hid hX
  have HI := Lib.hid hI
  obtain ⟨n, hn⟩ : ∃ n, Crc.num s.data.toList / 2 ^ a % 2 ^ k = n := ⟨_, rfl⟩
  have h4 : n < 65536 := by have : 2 ^ k ≤ 2 ^ 16 := Nat.pow_le_pow_right (by decide) hk; omega
  have hn2 := get_in B 0 a k s w hr (by omega) h2
  rw [hn] at hn2 ⊢
  have HG := Lib.hid hn2
  clear hE hX hr hI hg h2 h3 hn hn2
  go_enter Tryd.func76, Tryd.ntmps76
  go_wp2_with fail
  refine HG.out.mono ?_
  rintro e w2 ⟨rfl, hR, hS⟩
  have HR := Lib.hid hR
  have HS := Lib.hid hS
  have hX3 : Ext w0 w2 := hS.after hX2.out hB
  have c1 := (hE2.out.at hX3).1
  clear hR hS hX3
  go_wp2_with fail
  refine wp_region_still_tail 4 (by kernel_rfl) (by kernel_rfl) ?_
  simp only [List.take_succ_cons, List.take_zero, List.drop_succ_cons, List.drop_zero]
  repeat still_step
  refine wpStill_nil ?_
  change wpList _ _ _ _ _ w2.drew
  go_wp2_with fail
  refine (must_yes _ _ _).mono ?_
  rintro e _ ⟨rfl, rfl⟩
  go_wp2_with fail
  go_ret
  exact ⟨rfl, HR.out.drewN 1, HS.out.drewN 1⟩
theorem rget_no (R B a k c : Nat) (s : ByteArray) (v : Value) (out : List UInt8) (most : Nat) (w0 w : World) (E : Nat → Addr) (hE : Errs w0 E) (hX : Ext w0 w) (hI : IAt w R B s a v out most) (hk : k ≤ 16) (ha : a ≤ 8 * s.size) (hg : Inf.get s.data.toList k a = .error c) :
    Calls Tryd.prog 76 #[.pointer (some ⟨R, 0, none⟩), .int .i64 (k : Int)] w fun e w' => e = thrown (E c) ∧ Ext w w' := by
  obtain ⟨rfl, h2⟩ := Inf.get_error hg
  rw [list_size] at h2
  have hr := hI.rd
  have c0 := hI.bk.cell 0
  have hE2 := Lib.hid hE
  have hX2 := Lib.hid hX
  have HG := Lib.hid (get_text B 0 a k s w E (hE.ext hX) hr (by omega) h2 ha)
  clear hE hX hr hI hg h2
  go_enter Tryd.func76, Tryd.ntmps76
  go_wp2_with fail
  refine HG.out.mono ?_
  rintro e w2 ⟨rfl, hS⟩
  have HS := Lib.hid hS
  have c1 := (hE2.out.at (Ext.trans hX2.out hS)).1
  clear hS
  simp only [sentV] at c1 ⊢
  go_wp2_with fail
  refine wp_region_still_tail 4 (by kernel_rfl) (by kernel_rfl) ?_
  simp only [List.take_succ_cons, List.take_zero, List.drop_succ_cons, List.drop_zero]
  repeat still_step
  refine wpStill_nil ?_
  change wpList _ _ _ _ _ w2.drew
  go_wp2_with fail
  refine (must_no _ (E 0) _).mono ?_
  rintro e _ ⟨rfl, rfl⟩
  exact ⟨rfl, rfl, HS.out.drewN 1⟩
/-- a tree in memory, of a code that is right -/
structure Tree (w : World) (T : Nat) (f : Nat → Int) (len : Nat) (B : Nat) : Prop where
  at_ : ∃ v, TAt w T v f len (symA f len 15) ∧ v.ownBlock ≠ some B
  good : Inf.good f len
  tb : T ≠ B
theorem Tree.keep {w w' : World} {T len B : Nat} {f : Nat → Int} {S : Nat → Prop} (h : Tree w T f len B) (hk : Keeps S w w') (hT : ∀ k, k = T ∨ (∃ v, TAt w T v f len (symA f len 15) ∧ v.ownBlock = some k) → ¬ S k) : Tree w' T f len B := by
  obtain ⟨⟨v, h1, h2⟩, h3, h4⟩ := h
  exact ⟨⟨v, h1.kept hk (hT T (.inl rfl)) (fun k q => hT k (.inr ⟨v, h1, q⟩)), h2⟩, h3, h4⟩
theorem rtree_yes (R len cap : Nat) (x : Option Addr) (f : Nat → Int) (w0 w : World) (E : Nat → Addr) (hE : Errs w0 E) (hX : Ext w0 w) (hI : Ints w x len f) (hg : Inf.good f len) :
    Calls Tryd.prog 79 #[.pointer (some ⟨R, 0, none⟩), .slice x len cap] w fun e w' => (∃ T v, w.heap.size ≤ T ∧ (∀ k, v.ownBlock = some k → w.heap.size ≤ k) ∧ e = .returned (.pointer (some ⟨T, 0, none⟩)) ∧ TAt w' T v f len (symA f len 15)) ∧ Ext w w' := by
  have hE2 := Lib.hid hE
  have hX2 := Lib.hid hX
  have HG := Lib.hid (read_good x len cap f w E (hE.ext hX) hI hg.1 hg.2)
  clear hE hX hI hg
  go_enter Tryd.func79, Tryd.ntmps79
  go_wp2_with fail
  refine HG.out.mono ?_
  rintro e w2 ⟨⟨T, v, h1, h2, rfl, h3⟩, hS⟩
  have H1 := Lib.hid h1
  have H2 := Lib.hid h2
  have H3 := Lib.hid h3
  have HS := Lib.hid hS
  have c1 := (hE2.out.at (Ext.trans hX2.out hS)).1
  clear hS h1 h2 h3
  go_wp2_with fail
  refine wp_region_still_tail 4 (by kernel_rfl) (by kernel_rfl) ?_
  simp only [List.take_succ_cons, List.take_zero, List.drop_succ_cons, List.drop_zero]
  repeat still_step
  refine wpStill_nil ?_
  change wpList _ _ _ _ _ w2.drew
  go_wp2_with fail
  refine (must_yes _ _ _).mono ?_
  rintro e _ ⟨rfl, rfl⟩
  go_wp2_with fail
  go_ret
  exact ⟨⟨T, v, H1.out, H2.out, rfl, H3.out.kept (S := fun _ => False) ((Keeps.refl _ _).drewN 1) id (fun _ _ => id)⟩, HS.out.drewN 1⟩
theorem rtree_no (R len cap : Nat) (x : Option Addr) (f : Nat → Int) (w0 w : World) (E : Nat → Addr) (hE : Errs w0 E) (hX : Ext w0 w) (hI : Ints w x len f) (hl : len ≤ maxLen) (hg : ¬ Inf.good f len) :
    Calls Tryd.prog 79 #[.pointer (some ⟨R, 0, none⟩), .slice x len cap] w fun e w' => e = thrown (E 0) ∧ Ext w w' := by
  have hE2 := Lib.hid hE
  have hX2 := Lib.hid hX
  have HG := Lib.hid (read_no x len cap f w E (hE.ext hX) hI hl hg)
  clear hE hX hI hg
  go_enter Tryd.func79, Tryd.ntmps79
  go_wp2_with fail
  refine HG.out.mono ?_
  rintro e w2 ⟨⟨k, hk, rfl, hv⟩, hS⟩
  have HS := Lib.hid hS
  have c1 := (hE2.out.at (Ext.trans hX2.out hS)).1
  clear hS hv
  simp only [sentV] at c1 ⊢
  go_wp2_with fail
  refine wp_region_still_tail 4 (by kernel_rfl) (by kernel_rfl) ?_
  simp only [List.take_succ_cons, List.take_zero, List.drop_succ_cons, List.drop_zero]
  repeat still_step
  refine wpStill_nil ?_
  change wpList _ _ _ _ _ w2.drew
  go_wp2_with fail
  refine (must_no _ (E 0) _).mono ?_
  rintro e _ ⟨rfl, rfl⟩
  exact ⟨rfl, rfl, HS.out.drewN 1⟩
theorem next_hit {w' : World} {e : Ending} {B a a' len k : Nat} {s : ByteArray} {f : Nat → Int} {E : Nat → Addr} (hN : NextIs w' e B 0 s a f len E) (hc : complete f len) (hg : Inf.nxt s.data.toList f len a = .ok (k, a')) : e = .returned (.tuple #[.int .i64 (k : Int), .nilIface]) ∧ RAt w' B 0 s a' := by
  obtain ⟨n, rfl, h1, h2, h3, h4, h5, h6⟩ := Inf.nxt_ok hg
  rw [list_size] at h3
  exact next_word hN hc h4 h5 h1 h2 h3 h6.symm
theorem next_miss {w' : World} {e : Ending} {B a len c : Nat} {s : ByteArray} {f : Nat → Int} {E : Nat → Addr} (hN : NextIs w' e B 0 s a f len E) (hc : complete f len) (hg : Inf.nxt s.data.toList f len a = .error c) : e = .returned (.tuple #[.int .i64 0, sentV (E c)]) := by
  obtain rfl := Inf.nxt_error hg
  rcases hN with ⟨n, k, h1, h2, h3, h4, h5, h6, h7, _⟩ | ⟨_, h, _⟩
  · have := Inf.nxt_hit (L := s.data.toList) hc (n := n) (k := k) (a := a) ⟨h1, h2, by rw [list_size]; exact h3, h5, h6, h7⟩
    rw [hg] at this; cases this
  · exact h
theorem rnext_yes (R B T a k a' most len : Nat) (f : Nat → Int) (s : ByteArray) (v : Value) (out : List UInt8) (w0 w : World) (E : Nat → Addr) (hE : Errs w0 E) (hX : Ext w0 w) (hB : w0.heap.size ≤ B) (hI : IAt w R B s a v out most) (ha : a ≤ 8 * s.size) (hT : Tree w T f len B) (hg : Inf.nxt s.data.toList f len a = .ok (k, a')) :
    Calls Tryd.prog 84 #[.pointer (some ⟨R, 0, none⟩), .pointer (some ⟨T, 0, none⟩)] w fun e w' => e = .returned (.int .i64 (k : Int)) ∧ RAt w' B 0 s a' ∧ RStep w w' B 0 := by
  obtain ⟨⟨u, hT1, hT2⟩, hgo, hTB⟩ := hT
  have c0 := hI.bk.cell 0
  have hE2 := Lib.hid hE
  have hX2 := Lib.hid hX
  have HG := Lib.hid (next_any T B 0 a u f len s w0 w E hE hX hB hgo.1.1 hT1 hI.rd ha hTB hT2)
  have HN := Lib.hid hg
  have HC := Lib.hid hgo.2
  have HB := Lib.hid hB
  clear hE hX hI hg hT1 hT2 hgo hB
  go_enter Tryd.func84, Tryd.ntmps84
  go_wp2_with fail
  refine HG.out.mono ?_
  rintro e w2 ⟨hN, hS⟩
  obtain ⟨rfl, hR⟩ := next_hit hN HC.out HN.out
  have HR := Lib.hid hR
  have HS := Lib.hid hS
  have c1 := (hE2.out.at (hS.after hX2.out HB.out)).1
  clear hS hR hN
  go_wp2_with fail
  refine wp_region_still_tail 4 (by kernel_rfl) (by kernel_rfl) ?_
  simp only [List.take_succ_cons, List.take_zero, List.drop_succ_cons, List.drop_zero]
  repeat still_step
  refine wpStill_nil ?_
  change wpList _ _ _ _ _ w2.drew
  go_wp2_with fail
  refine (must_yes _ _ _).mono ?_
  rintro e _ ⟨rfl, rfl⟩
  go_wp2_with fail
  go_ret
  exact ⟨rfl, HR.out.drewN 1, HS.out.drewN 1⟩
theorem rnext_no (R B T a c most len : Nat) (f : Nat → Int) (s : ByteArray) (v : Value) (out : List UInt8) (w0 w : World) (E : Nat → Addr) (hE : Errs w0 E) (hX : Ext w0 w) (hB : w0.heap.size ≤ B) (hI : IAt w R B s a v out most) (ha : a ≤ 8 * s.size) (hT : Tree w T f len B) (hg : Inf.nxt s.data.toList f len a = .error c) :
    Calls Tryd.prog 84 #[.pointer (some ⟨R, 0, none⟩), .pointer (some ⟨T, 0, none⟩)] w fun e w' => e = thrown (E c) ∧ RStep w w' B 0 := by
  obtain ⟨⟨u, hT1, hT2⟩, hgo, hTB⟩ := hT
  have c0 := hI.bk.cell 0
  obtain rfl := Inf.nxt_error hg
  have hE2 := Lib.hid hE
  have hX2 := Lib.hid hX
  have HG := Lib.hid (next_any T B 0 a u f len s w0 w E hE hX hB hgo.1.1 hT1 hI.rd ha hTB hT2)
  have HN := Lib.hid hg
  have HC := Lib.hid hgo.2
  have HB := Lib.hid hB
  clear hE hX hI hg hT1 hT2 hgo hB
  go_enter Tryd.func84, Tryd.ntmps84
  go_wp2_with fail
  refine HG.out.mono ?_
  rintro e w2 ⟨hN, hS⟩
  obtain rfl := next_miss hN HC.out HN.out
  have HS := Lib.hid hS
  have c1 := (hE2.out.at (hS.after hX2.out HB.out)).1
  clear hS hN
  simp only [sentV] at c1 ⊢
  go_wp2_with fail
  refine wp_region_still_tail 4 (by kernel_rfl) (by kernel_rfl) ?_
  simp only [List.take_succ_cons, List.take_zero, List.drop_succ_cons, List.drop_zero]
  repeat still_step
  refine wpStill_nil ?_
  change wpList _ _ _ _ _ w2.drew
  go_wp2_with fail
  refine (must_no _ (E 0) _).mono ?_
  rintro e _ ⟨rfl, rfl⟩
  exact ⟨rfl, rfl, HS.out.drewN 1⟩
end Go.Proofs.YtnhbjgmfbcedaaaDoor
namespace Go.Proofs.YtnhbjgmfbcedaaaDoor
open Go.RowKit
set_option linter.unusedSimpArgs false
set_option linter.unusedVariables false
theorem app_string_at {P : Program} (w : World) (base : Nat) (t u ty e : TypeId) (i : TypeInfo) (ht : P.underlying t = some (.slice e)) (hu : P.underlying u = some .string) (hi : P.info? e = some i) (hz : i.zero = some (.int .u8 0))
    (hsize : i.size = 1) (hby : i.bytes = 1) (v : Value) (n : Nat) (xs : List Value) (hown : w.ownsRow base e 1 v n xs) (s : ByteArray) (h63 : n + s.size ≤ maxLen) (hb : n + s.size ≤ 140737488355328) (hbase : base ≤ w.heap.size) :
    ∃ v' w', (Builtin.append_ #[t, u] ty #[v, .string s]).run P w = .ok v' w' ∧ w'.ownsRow base e 1 v' (n + s.size) (xs ++ Lib.strCells s) ∧ w.grownBy w' v.ownBlock ∧ (v'.ownBlock = v.ownBlock ∨ v'.ownBlock = some w.heap.size) := by
  obtain ⟨v', w', hr, h2, h3, h4⟩ := Lib.run_append_own_string (P := P) w base t u ty e i ht hu hi hz hsize hby v n xs hown s h63 hb hbase
  refine ⟨v', w', hr, h2, h3, ?_⟩
  rcases hown.2 with ⟨rfl, rfl⟩ | ⟨g, cap, cur, rfl, _, hg, hnc, _, hcs, _⟩
  · by_cases h0 : s.size = 0
    · rw [h4.2 ⟨rfl, h0⟩]; exact .inl rfl
    · have q := run_append_nil_string (P := P) w t u ty e i (.int .u8 0) ht hu hi hz s (by omega) (by omega) (by rw [hby]; omega)
      rw [hr] at q
      injection q with q1 q2
      rw [q1]; exact .inr rfl
  · by_cases hroom : n + s.size ≤ cap
    · have q := Lib.run_append_room_string (P := P) w t u ty e i ht hu hi hsize g n cap cur hg s hroom (by omega)
      rw [hr] at q
      injection q with q1 q2
      rw [q1]; exact .inl rfl
    · have hlo : xs.length = n * i.size := by rw [hsize]; simpa using hown.1
      have q := Lib.run_append_grow_string (P := P) w t u ty e i (.int .u8 0) ht hu hi hz ⟨g, 0, none⟩ n cap xs hlo (hown.cells (g := g) rfl) s (by omega) (by simp only [maxLen] at h63; omega) (by rw [hby]; exact growslice_fits (by omega) (by omega))
      rw [hr] at q
      injection q with q1 q2
      rw [q1]; exact .inr rfl
theorem wpList_app_string {P : Program} {w : World} {ops : Array Oper} {rest : List Oper} {o : Oper} {a : Act} {Q : Exit → Act → World → Prop} (hgd : o.guard = none) (sl x : Operand) (t u : TypeId)
    (ho : o.op = .call { callee := .builtin .append, args := #[sl, x], argTypes := #[t, u] }) (base : Nat) (e : TypeId) (i : TypeInfo) (ht : P.underlying t = some (.slice e)) (hu : P.underlying u = some .string) (hi : P.info? e = some i) (hz : i.zero = some (.int .u8 0))
    (hsize : i.size = 1) (hby : i.bytes = 1) (v : Value) (n : Nat) (xs : List Value) (hs : a.eval sl = v) (hown : w.ownsRow base e 1 v n xs) (s : ByteArray) (hx : a.eval x = .string s) (h63 : n + s.size ≤ maxLen) (hb : n + s.size ≤ 140737488355328) (hbase : base ≤ w.heap.size)
    (h : ∀ v' w', w'.ownsRow base e 1 v' (n + s.size) (xs ++ Lib.strCells s) → w.grownBy w' v.ownBlock → (v'.ownBlock = v.ownBlock ∨ v'.ownBlock = some w.heap.size) → wpList P ops Q rest (a.put o.dst v') w') : wpList P ops Q (o :: rest) a w := by
  refine wpList_plain hgd fun K hK => ?_
  obtain ⟨v', w', hr, h2, h3, h4⟩ := app_string_at (P := P) w base t u o.type e i ht hu hi hz hsize hby v n xs hown s h63 hb hbase
  unfold Oper.wp execOp
  simp only [ho, resolve, invoke, builtin, Sem.run_bind, Sem.run_pure, Result.andThen_ok, List.map_toArray, List.map_cons, List.map_nil, hs, hx, hr]
  exact hK _ _ (h v' w' h2 h3 h4)
end Go.Proofs.YtnhbjgmfbcedaaaDoor
namespace Go.Proofs.YtnhbjgmfbcedaaaDoor
open Go.RowKit
set_option linter.unusedSimpArgs false
set_option linter.unusedVariables false
set_option maxRecDepth 100000
theorem xor_ones (n : Nat) (hn : n < 65536) : n ^^^ 65535 = 65535 - n := by
  have h := congrArg BitVec.toNat (BitVec.xor_allOnes (x := BitVec.ofNat 16 n))
  rw [BitVec.toNat_xor, BitVec.toNat_not, BitVec.toNat_allOnes, BitVec.toNat_ofNat, Nat.mod_eq_of_lt (by omega)] at h
  exact h
theorem xor_all (n m : Nat) (hn : n < 65536) (hm : m < 65536) : (bits BinOp.xor IntKind.i64 (n : Int) (m : Int) = 65535) ↔ n + m = 65535 := by
  have e : bits BinOp.xor IntKind.i64 (n : Int) (m : Int) = ((n ^^^ m : Nat) : Int) := by
    show IntKind.i64.wrap ((BitVec.ofInt 64 (n : Int) ^^^ BitVec.ofInt 64 (m : Int)).toNat : Int) = _
    have hx : n ^^^ m < 2 ^ 16 := Nat.xor_lt_two_pow (by omega) (by omega)
    rw [BitVec.ofInt_natCast, BitVec.ofInt_natCast, BitVec.toNat_xor, BitVec.toNat_ofNat, BitVec.toNat_ofNat, Nat.mod_eq_of_lt (by omega), Nat.mod_eq_of_lt (by omega), IntKind.wrap_i64]
    omega
  rw [e, show ((n ^^^ m : Nat) : Int) = 65535 ↔ n ^^^ m = 65535 by omega]
  constructor
  · intro h
    have : m = n ^^^ 65535 := by rw [← h, ← Nat.xor_assoc, Nat.xor_self, Nat.zero_xor]
    rw [xor_ones n hn] at this; omega
  · intro h
    have : m = n ^^^ 65535 := by rw [xor_ones n hn]; omega
    rw [this, ← Nat.xor_assoc, Nat.xor_self, Nat.zero_xor]
/-- what a reader of a text may do with its row: a text is appended -/
theorem IAt.grow {w0 W w' : World} {R B a most : Nat} {s t : ByteArray} {v v' : Value} {out : List UInt8} (h : IAt w0 R B s a v out most) (hE : Ext w0 W) (hg : W.grownBy w' v.ownBlock) (ho : w'.ownsRow 0 5 1 v' (out.length + t.size) (bytesV out ++ Lib.strCells t))
    (hat : v'.ownBlock = v.ownBlock ∨ v'.ownBlock = some W.heap.size) :
    Bk w' R #[.pointer (some ⟨B, 0, none⟩), v, .int .i64 (most : Int)] ∧ IAt (w'.setCell ⟨R, 1, none⟩ v') R B s a v' (out ++ t.data.toList) most ∧ IStep w0 (w'.setCell ⟨R, 1, none⟩ v') R B v v' := by
  have h1 := h.ext hE
  have hk := Keeps.grown hg
  have hs := hE.size
  have hbk : Bk w' R #[.pointer (some ⟨B, 0, none⟩), v, .int .i64 (most : Int)] := h1.bk.keeps hk h.rv
  have hRl : R < w0.heap.size := h.bk.lt
  have hBl : B < w0.heap.size := h.rd.lt
  have hv : ∀ k, v'.ownBlock = some k → v.ownBlock = some k ∨ w0.heap.size ≤ k := by
    intro k hk
    rcases hat with q | q
    · rw [q] at hk; exact .inl hk
    · rw [q] at hk; injection hk with hk; exact .inr (by omega)
  have hvR : v'.ownBlock ≠ some R := by
    intro e
    rcases hv R e with q | q
    · exact h.rv q
    · omega
  have hvB : v'.ownBlock ≠ some B := by
    intro e
    rcases hv B e with q | q
    · exact h.bv q
    · omega
  have hK0 : Keeps (fun k => v.ownBlock = some k) w0 w' := (hE.keeps (S := fun k => v.ownBlock = some k)).trans hk (fun _ _ q => q)
  have h2 : RAt w' B 0 s a := by
    have hb : ¬ v.ownBlock = some B := h.bv
    exact ⟨(hK0.cell (p := ⟨B, 0, none⟩) hBl hb).trans h.rd.c0, (hK0.cell (p := ⟨B, 0 + 1, none⟩) hBl hb).trans h.rd.c1, (hK0.frozen (p := ⟨B, 0 + 1, none⟩) hBl hb).trans h.rd.f1, h.rd.size, h.rd.le⟩
  have hKs : Keeps (fun k => k = R) w' (w'.setCell ⟨R, 1, none⟩ v') := (Keeps.refl (fun k => k = R) _).setCell (p := ⟨R, 1, none⟩) (.inl rfl) _
  have hBl' : B < w'.heap.size := h2.lt
  have e : bytesV (out ++ t.data.toList) = bytesV out ++ Lib.strCells t := by rw [strCells_eq]; simp [bytesV]
  refine ⟨hbk, ⟨hbk.set_ 1 _, ⟨(hKs.cell (p := ⟨B, 0, none⟩) hBl' (fun q => h.rb q.symm)).trans h2.c0, (hKs.cell (p := ⟨B, 0 + 1, none⟩) hBl' (fun q => h.rb q.symm)).trans h2.c1, (hKs.frozen (p := ⟨B, 0 + 1, none⟩) hBl' (fun q => h.rb q.symm)).trans h2.f1, h.rd.size, h.rd.le⟩, ?_, h.rb, hvR, hvB⟩, ⟨?_, hv⟩⟩
  · rw [e, List.length_append, list_size]
    exact ownsRow_setCell_other ho hvR _
  · exact (hK0.mono (fun _ _ q => .inr (.inr q))).setCell (.inl (.inl rfl)) _
/-- a reader behind the start of a call -/
structure ISt (w0 w : World) (R B : Nat) (s : ByteArray) (a : Nat) (v : Value) (out : List UInt8) (most : Nat) : Prop where
  at_ : IAt w R B s a v out most
  old : Ext w0 w
  hR : w0.heap.size ≤ R
  hB : w0.heap.size ≤ B
  hv : ∀ k, v.ownBlock = some k → w0.heap.size ≤ k
  le : a ≤ 8 * s.size
theorem ISt.gone {w0 w w' : World} {R B a most : Nat} {s : ByteArray} {v v' : Value} {out : List UInt8} (h : ISt w0 w R B s a v out most) (k : IStep w w' R B v v') : Ext w0 w' :=
  Below.trans h.old (k.keeps.below h.old.size (fun i hi q => by
    have := h.hR; have := h.hB
    rcases q with q | q | q
    · omega
    · omega
    · have := h.hv i q; omega))
theorem ISt.to {w0 w w' : World} {R B a a' most : Nat} {s : ByteArray} {v v' : Value} {out out' : List UInt8} (h : ISt w0 w R B s a v out most) (hA : IAt w' R B s a' v' out' most) (k : IStep w w' R B v v') (hle : a' ≤ 8 * s.size) : ISt w0 w' R B s a' v' out' most :=
  ⟨hA, h.gone k, h.hR, h.hB, fun i q => by
    have := h.old.size
    rcases k.new i q with r | r
    · exact h.hv i r
    · omega, hle⟩
theorem ISt.read {w0 w w' : World} {R B a a' most : Nat} {s : ByteArray} {v : Value} {out : List UInt8} (h : ISt w0 w R B s a v out most) (hR : RAt w' B 0 s a') (hS : RStep w w' B 0) (hle : a' ≤ 8 * s.size) : ISt w0 w' R B s a' v out most :=
  h.to (h.at_.read hR hS) (IStep.rd hS) hle
theorem ISt.ext {w0 w w' : World} {R B a most : Nat} {s : ByteArray} {v : Value} {out : List UInt8} (h : ISt w0 w R B s a v out most) (hE : Ext w w') : ISt w0 w' R B s a v out most :=
  h.to (h.at_.ext hE) (IStep.ext hE) h.le
/-- a reader on its way: from w, behind w0 -/
structure IGo (w0 w wr : World) (R B : Nat) (s : ByteArray) (a : Nat) (v0 v : Value) (out : List UInt8) (most : Nat) : Prop where
  st : ISt w0 wr R B s a v out most
  step : IStep w wr R B v0 v
section
variable {w0 w wr w' : World} {R B a a' most : Nat} {s : ByteArray} {v0 v v' : Value} {out out' : List UInt8}
theorem IGo.old (h : IGo w0 w wr R B s a v0 v out most) : Ext w0 wr := h.st.old
theorem IGo.ext (h : IGo w0 w wr R B s a v0 v out most) (hE : Ext wr w') : IGo w0 w w' R B s a v0 v out most := ⟨h.st.ext hE, h.step.trans (IStep.ext hE)⟩
theorem IGo.read (h : IGo w0 w wr R B s a v0 v out most) (hR : RAt w' B 0 s a') (hS : RStep wr w' B 0) (hle : a' ≤ 8 * s.size) : IGo w0 w w' R B s a' v0 v out most := ⟨h.st.read hR hS hle, h.step.trans (IStep.rd hS)⟩
theorem IGo.to (h : IGo w0 w wr R B s a v0 v out most) (hA : IAt w' R B s a' v' out' most) (k : IStep wr w' R B v v') (hle : a' ≤ 8 * s.size) : IGo w0 w w' R B s a' v0 v' out' most := ⟨h.st.to hA k hle, h.step.trans k⟩
theorem IGo.start (h : ISt w0 w R B s a v out most) : IGo w0 w w R B s a v v out most := ⟨h, IStep.refl _ _ _ _⟩
theorem IGo.bk (h : IGo w0 w wr R B s a v0 v out most) : Bk wr R #[.pointer (some ⟨B, 0, none⟩), v, .int .i64 (most : Int)] := h.st.at_.bk
theorem IGo.row (h : IGo w0 w wr R B s a v0 v out most) : wr.ownsRow 0 5 1 v out.length (bytesV out) := h.st.at_.row
end
theorem get_le {L : List UInt8} {k a n a' : Nat} (h : Inf.get L k a = .ok (n, a')) : a' ≤ 8 * L.length := by
  obtain ⟨rfl, h, _⟩ := Inf.get_ok h; exact h
def IPost (w0 w : World) (R B : Nat) (s : ByteArray) (most : Nat) (v : Value) (E : Nat → Addr) (r : Except Nat (Nat × List UInt8)) (e : Ending) (w' : World) : Prop :=
  match r with
  | .ok (a, out) => e = .returned (.tuple #[]) ∧ ∃ v', IGo w0 w w' R B s a v v' out most
  | .error c => e = thrown (E c) ∧ Ext w0 w'
theorem ipost_ok {w0 w w' : World} {R B a most : Nat} {s : ByteArray} {v v' : Value} {E : Nat → Addr} {out : List UInt8} {r : Except Nat (Nat × List UInt8)} (hr : .ok (a, out) = r) (h : IGo w0 w w' R B s a v v' out most) : IPost w0 w R B s most v E r (.returned (.tuple #[])) w' := by
  subst hr; exact ⟨rfl, v', h⟩
theorem ipost_error {w0 w w' : World} {R B c most : Nat} {s : ByteArray} {v : Value} {E : Nat → Addr} {r : Except Nat (Nat × List UInt8)} (hr : .error c = r) (h : Ext w0 w') : IPost w0 w R B s most v E r (thrown (E c)) w' := by
  subst hr; exact ⟨rfl, h⟩
theorem err_cells {w0 w : World} {E : Nat → Addr} (hE : Errs w0 E) (hX : Ext w0 w) : w.cell? ⟨1, 0, none⟩ = some (.iface 210 (.pointer (some (E 0)))) ∧ w.cell? ⟨0, 0, none⟩ = some (.iface 210 (.pointer (some (E 1)))) := hE.at hX
theorem gget_yes (R B a k n a' most : Nat) (s : ByteArray) (v0 v : Value) (out : List UInt8) (w0 w wr : World) (E : Nat → Addr) (hE : Errs w0 E) (hI : IGo w0 w wr R B s a v0 v out most) (hk : k ≤ 16) (hg : Inf.get s.data.toList k a = .ok (n, a')) :
    Calls Tryd.prog 76 #[.pointer (some ⟨R, 0, none⟩), .int .i64 (k : Int)] wr fun e w' => e = .returned (.int .i64 (n : Int)) ∧ IGo w0 w w' R B s a' v0 v out most ∧ RStep wr w' B 0 := by
  refine (rget_yes R B a k n s v out most w0 wr E hE hI.old hI.st.hB hI.st.at_ hk a' hg).mono ?_
  rintro e w' ⟨rfl, h1, h2⟩
  have := get_le hg
  rw [list_size] at this
  exact ⟨rfl, hI.read h1 h2 this, h2⟩
theorem gget_no (R B a k c most : Nat) (s : ByteArray) (v0 v : Value) (out : List UInt8) (w0 w wr : World) (E : Nat → Addr) (hE : Errs w0 E) (hI : IGo w0 w wr R B s a v0 v out most) (hk : k ≤ 16) (hg : Inf.get s.data.toList k a = .error c) :
    Calls Tryd.prog 76 #[.pointer (some ⟨R, 0, none⟩), .int .i64 (k : Int)] wr fun e w' => e = thrown (E c) ∧ Ext w0 w' := by
  refine (rget_no R B a k c s v out most w0 wr E hE hI.old hI.st.at_ hk hI.st.le hg).mono ?_
  rintro e w' ⟨rfl, h1⟩
  exact ⟨rfl, hI.st.gone (IStep.ext h1)⟩
end Go.Proofs.YtnhbjgmfbcedaaaDoor
namespace Go.Proofs.YtnhbjgmfbcedaaaDoor
open Go.RowKit
set_option linter.unusedSimpArgs false
set_option linter.unusedVariables false
set_option maxRecDepth 100000
namespace Inf
def pr (r : TRes) : Except Nat (Nat × List UInt8) :=
  match r with
  | .ok (a, out, _) => .ok (a, out)
  | .error c => .error c
section
variable {L : List UInt8} {most : Nat} {f : Nat → Int} {len : Nat} {g : Nat → Int} {gen F a : Nat} {out : List UInt8} {tr : List Ev} {r : TRes}
theorem toks_err1 {c : Nat} (hF : 0 < F) (h : toks L most f len g gen F a out tr = r) (hn : nxt L f len a = .error c) : .error c = pr r := by
  cases F with
  | zero => omega
  | succ F => simp only [toks, hn] at h; subst h; rfl
theorem toks_fin {a1 : Nat} (hF : 0 < F) (h : toks L most f len g gen F a out tr = r) (hn : nxt L f len a = .ok (256, a1)) : .ok (a1, out) = pr r := by
  cases F with
  | zero => omega
  | succ F => simp only [toks, hn, if_pos] at h; subst h; rfl
theorem toks_err2 {k a1 c : Nat} (hF : 0 < F) (h : toks L most f len g gen F a out tr = r) (hn : nxt L f len a = .ok (k, a1)) (hk : k ≠ 256) (ht : tok L most g gen k a1 out = .error c) : .error c = pr r := by
  cases F with
  | zero => omega
  | succ F => simp only [toks, hn, if_neg hk, ht] at h; subst h; rfl
theorem toks_go {k a1 a2 : Nat} {out2 : List UInt8} {e : Ev} (hF : 0 < F) (h : toks L most f len g gen F a out tr = r) (hn : nxt L f len a = .ok (k, a1)) (hk : k ≠ 256) (ht : tok L most g gen k a1 out = .ok (a2, out2, e)) : ∃ F', F = F' + 1 ∧ toks L most f len g gen F' a2 out2 (tr ++ [e]) = r := by
  cases F with
  | zero => omega
  | succ F => simp only [toks, hn, if_neg hk, ht] at h; exact ⟨F, rfl, h⟩
variable {k a1 x : Nat}
theorem tok_over (hk : k < 256) (h : most ≤ out.length) : tok L most g gen k a out = .error 1 := by unfold tok; rw [if_pos hk, if_neg (by omega)]
theorem tok_lit (hk : k < 256) (h : out.length < most) : tok L most g gen k a out = .ok (a, out ++ [UInt8.ofNat k], ⟨k, 0, 0, 0⟩) := by unfold tok; rw [if_pos hk, if_pos h]
theorem tok_big (hk : 286 ≤ k) : tok L most g gen k a out = .error 0 := by unfold tok; rw [if_neg (by omega), if_pos hk]
theorem tok_x {c : Nat} (h1 : 256 < k) (h2 : k < 286) (hg : get L (lensB.getD (k - 257) 0) a = .error c) : tok L most g gen k a out = .error c := by unfold tok; rw [if_neg (by omega), if_neg (by omega), hg]
theorem tok_d {c : Nat} (h1 : 256 < k) (h2 : k < 286) (hg : get L (lensB.getD (k - 257) 0) a = .ok (x, a1)) (hd : nxt L g gen a1 = .error c) : tok L most g gen k a out = .error c := by unfold tok; rw [if_neg (by omega), if_neg (by omega), hg]; simp only [hd]
theorem tok_f {d a2 : Nat} (h1 : 256 < k) (h2 : k < 286) (hg : get L (lensB.getD (k - 257) 0) a = .ok (x, a1)) (hd : nxt L g gen a1 = .ok (d, a2)) : tok L most g gen k a out = far L most k d a2 out x := by unfold tok; rw [if_neg (by omega), if_neg (by omega), hg]; simp only [hd]
theorem far_big {d : Nat} (h : 30 ≤ d) : far L most k d a out x = .error 0 := by unfold far; rw [if_pos h]
theorem far_x {d c : Nat} (h : d < 30) (hg : get L (distsB.getD d 0) a = .error c) : far L most k d a out x = .error c := by unfold far; rw [if_neg (by omega), hg]
theorem far_back {d y : Nat} (h : d < 30) (hg : get L (distsB.getD d 0) a = .ok (y, a1)) (hb : out.length < distsL.getD d 0 + y) : far L most k d a out x = .error 0 := by unfold far; rw [if_neg (by omega), hg]; simp only [if_pos hb]
theorem far_most {d y : Nat} (h : d < 30) (hg : get L (distsB.getD d 0) a = .ok (y, a1)) (hb : ¬ out.length < distsL.getD d 0 + y) (hm : most < out.length + (lensL.getD (k - 257) 0 + x)) : far L most k d a out x = .error 1 := by unfold far; rw [if_neg (by omega), hg]; simp only [if_neg hb, if_pos hm]
theorem far_ok {d y : Nat} (h : d < 30) (hg : get L (distsB.getD d 0) a = .ok (y, a1)) (hb : ¬ out.length < distsL.getD d 0 + y) (hm : ¬ most < out.length + (lensL.getD (k - 257) 0 + x)) :
    far L most k d a out x = .ok (a1, copyL out (distsL.getD d 0 + y) (lensL.getD (k - 257) 0 + x), ⟨k, d, lensL.getD (k - 257) 0 + x, distsL.getD d 0 + y⟩) := by unfold far; rw [if_neg (by omega), hg]; simp only [if_neg hb, if_neg hm]
end
theorem lensL_le : ∀ k, lensL.getD k 0 ≤ 258 := by
  intro k
  by_cases h : k < 29
  · have : ∀ k, k < 29 → lensL.getD k 0 ≤ 258 := by decide
    exact this k h
  · rw [List.getD, List.getElem?_eq_none (by simp [lensL]; omega)]; exact Nat.zero_le _
theorem lensB_le : ∀ k, lensB.getD k 0 ≤ 5 := by
  intro k
  by_cases h : k < 29
  · have : ∀ k, k < 29 → lensB.getD k 0 ≤ 5 := by decide
    exact this k h
  · rw [List.getD, List.getElem?_eq_none (by simp [lensB]; omega)]; exact Nat.zero_le _
theorem distsB_le : ∀ k, distsB.getD k 0 ≤ 13 := by
  intro k
  by_cases h : k < 30
  · have : ∀ k, k < 30 → distsB.getD k 0 ≤ 13 := by decide
    exact this k h
  · rw [List.getD, List.getElem?_eq_none (by simp [distsB]; omega)]; exact Nat.zero_le _
theorem distsL_le : ∀ k, distsL.getD k 0 ≤ 24577 := by
  intro k
  by_cases h : k < 30
  · have : ∀ k, k < 30 → distsL.getD k 0 ≤ 24577 := by decide
    exact this k h
  · rw [List.getD, List.getElem?_eq_none (by simp [distsL]; omega)]; exact Nat.zero_le _
theorem distsL_pos : ∀ k, k < 30 → 1 ≤ distsL.getD k 0 := by decide
theorem nxt_le {L : List UInt8} {f : Nat → Int} {len a a' k : Nat} (h : nxt L f len a = .ok (k, a')) : a < a' ∧ a' ≤ 8 * L.length ∧ k < len := by
  obtain ⟨n, rfl, h1, h2, h3, h4, h5, h6⟩ := nxt_ok h
  exact ⟨by omega, h3, h4⟩
end Inf
/-- a tree beside a reader -/
structure Tr (w : World) (T : Nat) (f : Nat → Int) (len : Nat) (R B : Nat) (v : Value) : Prop where
  at_ : ∃ u, TAt w T u f len (symA f len 15) ∧ (∀ k, u.ownBlock = some k → k ≠ R ∧ k ≠ B ∧ v.ownBlock ≠ some k)
  good : Inf.good f len
  tr : T ≠ R
  tb : T ≠ B
  tv : v.ownBlock ≠ some T
theorem Tr.step {w w' : World} {T len R B : Nat} {f : Nat → Int} {v v' : Value} (h : Tr w T f len R B v) (k : IStep w w' R B v v') : Tr w' T f len R B v' := by
  obtain ⟨⟨u, h1, h2⟩, h3, h4, h5, h6⟩ := h
  have hT : T < w.heap.size := World.block_lt_of_cell? w _ h1.cell
  refine ⟨⟨u, h1.kept k.keeps ?_ ?_, ?_⟩, h3, h4, h5, ?_⟩
  · rintro (q | q | q)
    · exact h4 q
    · exact h5 q
    · exact h6 q
  · intro i hi q
    obtain ⟨a1, a2, a3⟩ := h2 i hi
    rcases q with q | q | q
    · exact a1 q
    · exact a2 q
    · exact a3 q
  · intro i hi
    obtain ⟨a1, a2, a3⟩ := h2 i hi
    refine ⟨a1, a2, fun q => ?_⟩
    have hlt := ownsRow_lt h1.row hi
    rcases k.new i q with r | r
    · exact a3 r
    · omega
  · intro q
    rcases k.new T q with r | r
    · exact h6 r
    · omega
theorem Tr.tree {w : World} {T len R B : Nat} {f : Nat → Int} {v : Value} (h : Tr w T f len R B v) : Tree w T f len B := by
  obtain ⟨⟨u, h1, h2⟩, h3, h4, h5, h6⟩ := h
  exact ⟨⟨u, h1, fun e => (h2 B e).2.1 rfl⟩, h3, h5⟩
theorem gnext_yes (R B T a k a' most len : Nat) (f : Nat → Int) (s : ByteArray) (v0 v : Value) (out : List UInt8) (w0 w wr : World) (E : Nat → Addr) (hE : Errs w0 E) (hI : IGo w0 w wr R B s a v0 v out most) (hT : Tr wr T f len R B v) (hg : Inf.nxt s.data.toList f len a = .ok (k, a')) :
    Calls Tryd.prog 84 #[.pointer (some ⟨R, 0, none⟩), .pointer (some ⟨T, 0, none⟩)] wr fun e w' => e = .returned (.int .i64 (k : Int)) ∧ IGo w0 w w' R B s a' v0 v out most ∧ RStep wr w' B 0 := by
  refine (rnext_yes R B T a k a' most len f s v out w0 wr E hE hI.old hI.st.hB hI.st.at_ hI.st.le hT.tree hg).mono ?_
  rintro e w' ⟨rfl, h1, h2⟩
  have := (Inf.nxt_le hg).2.1
  rw [list_size] at this
  exact ⟨rfl, hI.read h1 h2 this, h2⟩
theorem gnext_no (R B T a c most len : Nat) (f : Nat → Int) (s : ByteArray) (v0 v : Value) (out : List UInt8) (w0 w wr : World) (E : Nat → Addr) (hE : Errs w0 E) (hI : IGo w0 w wr R B s a v0 v out most) (hT : Tr wr T f len R B v) (hg : Inf.nxt s.data.toList f len a = .error c) :
    Calls Tryd.prog 84 #[.pointer (some ⟨R, 0, none⟩), .pointer (some ⟨T, 0, none⟩)] wr fun e w' => e = thrown (E c) ∧ Ext w0 w' := by
  refine (rnext_no R B T a c most len f s v out w0 wr E hE hI.old hI.st.hB hI.st.at_ hI.st.le hT.tree hg).mono ?_
  rintro e w' ⟨rfl, h1⟩
  exact ⟨rfl, hI.st.gone (IStep.rd h1)⟩
/-- a reader on its way, with a tree and with what a closure holds -/
structure TGo (D : World → Value → Prop) (w0 w wr : World) (R B : Nat) (s : ByteArray) (a : Nat) (v0 v : Value) (out : List UInt8) (most T : Nat) (f : Nat → Int) (len : Nat) : Prop where
  go : IGo w0 w wr R B s a v0 v out most
  tr : Tr wr T f len R B v
  d : D wr v
  stab : ∀ w w' v v', D w v → IStep w w' R B v v' → D w' v'
section
variable {D : World → Value → Prop} {w0 w wr w' : World} {R B a a' most T len : Nat} {f : Nat → Int} {s : ByteArray} {v0 v v' : Value} {out out' : List UInt8}
theorem TGo.old (h : TGo D w0 w wr R B s a v0 v out most T f len) : Ext w0 wr := h.go.old
theorem TGo.bk (h : TGo D w0 w wr R B s a v0 v out most T f len) : Bk wr R #[.pointer (some ⟨B, 0, none⟩), v, .int .i64 (most : Int)] := h.go.bk
theorem TGo.row (h : TGo D w0 w wr R B s a v0 v out most T f len) : wr.ownsRow 0 5 1 v out.length (bytesV out) := h.go.row
theorem TGo.to (h : TGo D w0 w wr R B s a v0 v out most T f len) (hG : IGo w0 w w' R B s a' v0 v' out' most) (hS : IStep wr w' R B v v') : TGo D w0 w w' R B s a' v0 v' out' most T f len :=
  ⟨hG, h.tr.step hS, h.stab _ _ _ _ h.d hS, h.stab⟩
theorem TGo.ext (h : TGo D w0 w wr R B s a v0 v out most T f len) (hE : Ext wr w') : TGo D w0 w w' R B s a v0 v out most T f len := h.to (h.go.ext hE) (IStep.ext hE)
theorem TGo.rd (h : TGo D w0 w wr R B s a v0 v out most T f len) (hG : IGo w0 w w' R B s a' v0 v out most) (hS : RStep wr w' B 0) : TGo D w0 w w' R B s a' v0 v out most T f len := h.to hG (IStep.rd hS)
end
structure Dist (dn : Nat) (cs : Array Value) (w0 : World) (R B : Nat) (s : ByteArray) (most : Nat) (E : Nat → Addr) (g : Nat → Int) (gen : Nat) (D : World → Value → Prop) : Prop where
  enters : ∀ (args : Array Value) (w : World), (callFunc dn args).run Tryd.prog w = .ok (.enter dn args) w
  stab : ∀ w w' v v', D w v → IStep w w' R B v v' → D w' v'
  yes : ∀ w wr a v0 v out k a', IGo w0 w wr R B s a v0 v out most → D wr v → Inf.nxt s.data.toList g gen a = .ok (k, a') → Calls Tryd.prog dn cs wr fun e w' => e = .returned (.int .i64 (k : Int)) ∧ IGo w0 w w' R B s a' v0 v out most ∧ IStep wr w' R B v v
  no : ∀ w wr a v0 v out c, IGo w0 w wr R B s a v0 v out most → D wr v → Inf.nxt s.data.toList g gen a = .error c → Calls Tryd.prog dn cs wr fun e w' => e = thrown (E c) ∧ Ext w0 w'
/-- the tables -/
structure Tabs (w : World) : Prop where
  lens : ∀ k, k < 29 → w.cell? ⟨10, k, none⟩ = some (.int .i64 ((Inf.lensL.getD k 0 : Nat) : Int))
  lenB : ∀ k, k < 29 → w.cell? ⟨11, k, none⟩ = some (.int .i64 ((Inf.lensB.getD k 0 : Nat) : Int))
  dists : ∀ k, k < 30 → w.cell? ⟨12, k, none⟩ = some (.int .i64 ((Inf.distsL.getD k 0 : Nat) : Int))
  distB : ∀ k, k < 30 → w.cell? ⟨13, k, none⟩ = some (.int .i64 ((Inf.distsB.getD k 0 : Nat) : Int))
  order : ∀ k, k < 19 → w.cell? ⟨9, k, none⟩ = some (.int .i64 ((Inf.orderL.getD k 0 : Nat) : Int))
theorem ext_cell {w w' : World} (h : Ext w w') {p : Addr} {u : Value} (hc : w.cell? p = some u) : w'.cell? p = some u :=
  (Below.cell h (World.block_lt_of_cell? w _ hc)).trans hc
theorem Tabs.ext {w w' : World} (h : Tabs w) (hE : Ext w w') : Tabs w' :=
  ⟨fun k q => ext_cell hE (h.lens k q), fun k q => ext_cell hE (h.lenB k q), fun k q => ext_cell hE (h.dists k q), fun k q => ext_cell hE (h.distB k q), fun k q => ext_cell hE (h.order k q)⟩
/-- a byte more, behind a block that was laid -/
theorem IGo.push {w0 w wr wb w' : World} {R B a most L : Nat} {s : ByteArray} {v0 v v' : Value} {out : List UInt8} {y : UInt8} (h : IGo w0 w wr R B s a v0 v out most) (hL : out.length = L) (hE : Ext wr wb) (hg : wb.grownBy w' v.ownBlock) (ho : w'.ownsRow 0 5 1 v' (L + 1) (bytesV out ++ [.int .u8 (y.toNat : Int)]))
    (hat : v'.ownBlock = v.ownBlock ∨ v'.ownBlock = some wb.heap.size) :
    Bk w' R #[.pointer (some ⟨B, 0, none⟩), v, .int .i64 (most : Int)] ∧ IGo w0 w (w'.setCell ⟨R, 1, none⟩ v') R B s a v0 v' (out ++ [y]) most ∧ IStep wr (w'.setCell ⟨R, 1, none⟩ v') R B v v' := by
  have h1 := IAt.grow (t := (⟨#[y]⟩ : ByteArray)) h.st.at_ hE hg (by rw [hL]; rw [strCells_eq]; exact ho) hat
  exact ⟨h1.1, h.to h1.2.1 h1.2.2 h.st.le, h1.2.2⟩
end Go.Proofs.YtnhbjgmfbcedaaaDoor
namespace Go.Proofs.YtnhbjgmfbcedaaaDoor
open Go.RowKit
set_option linter.unusedSimpArgs false
set_option linter.unusedVariables false
namespace Inf
theorem get_mono {L : List UInt8} {k a n a' : Nat} (h : get L k a = .ok (n, a')) : a' = a + k := (get_ok h).1
theorem tok_grow {L : List UInt8} {most : Nat} {g : Nat → Int} {gen k a a' : Nat} {out out' : List UInt8} {e : Ev} (h : tok L most g gen k a out = .ok (a', out', e)) : a ≤ a' ∧ out.length ≤ out'.length ∧ out'.length ≤ most := by
  unfold tok at h
  split at h
  · split at h
    · injection h with h; injection h with h1 h; injection h with h2 h3
      subst h1 h2; exact ⟨Nat.le_refl _, by simp, by simp; omega⟩
    · cases h
  · split at h
    · cases h
    · split at h
      · cases h
      · rename_i x a2 hx
        split at h
        · cases h
        · rename_i d a3 hd
          have h1 := get_mono hx
          have h2 := (nxt_le hd).1
          unfold far at h
          split at h
          · cases h
          · split at h
            · cases h
            · rename_i y a4 hy
              have h3 := get_mono hy
              split at h
              · cases h
              · split at h
                · cases h
                · injection h with h; injection h with e1 h; injection h with e2 e3
                  subst e1 e2
                  rw [copyL_length]
                  exact ⟨by omega, by omega, by omega⟩
theorem toks_grow {L : List UInt8} {most : Nat} {f g : Nat → Int} {len gen : Nat} : ∀ (F a : Nat) (out : List UInt8) (tr : List Ev) (a' : Nat) (out' : List UInt8) (tr' : List Ev), out.length ≤ most → toks L most f len g gen F a out tr = .ok (a', out', tr') → a ≤ a' ∧ out'.length ≤ most := by
  intro F
  induction F with
  | zero => intro a out tr a' out' tr' _ h; cases h
  | succ F ih =>
    intro a out tr a' out' tr' ho h
    simp only [toks] at h
    split at h
    · cases h
    · rename_i k a1 hn
      have h1 := (nxt_le hn).1
      split at h
      · injection h with h; injection h with e1 h; injection h with e2 e3
        subst e1 e2; exact ⟨by omega, ho⟩
      · split at h
        · cases h
        · rename_i a2 out2 e ht
          have h2 := tok_grow ht
          have h3 := ih _ _ _ _ _ _ h2.2.2 h
          exact ⟨by omega, h3.2⟩
theorem stored_grow {L : List UInt8} {most a a' : Nat} {out out' : List UInt8} (h : stored L most a out = .ok (a', out')) : a ≤ a' ∧ out'.length ≤ most := by
  unfold stored at h
  split at h
  · cases h
  · rename_i n a2 h1
    split at h
    · cases h
    · rename_i m a3 h2
      split at h
      · cases h
      · split at h
        · cases h
        · split at h
          · cases h
          · injection h with h; injection h with e1 e2
            have q1 := get_mono h1
            have q2 := get_mono h2
            subst e1 e2
            rw [List.length_append, List.length_take]
            exact ⟨by omega, by omega⟩
theorem smalls_grow {L : List UInt8} : ∀ (r i a : Nat) (f f' : Nat → Int) (a' : Nat), smalls L r i a f = .ok (f', a') → a ≤ a' := by
  intro r
  induction r with
  | zero => intro i a f f' a' h; injection h with h; injection h with h1 h2; omega
  | succ r ih =>
    intro i a f f' a' h
    simp only [smalls] at h
    split at h
    · cases h
    · rename_i x a2 hg
      have := get_mono hg
      have := ih _ _ _ _ _ h
      omega
theorem rep_grow {L : List UInt8} {k a t w a' : Nat} {l : List Nat} (h : rep L k a l = .ok (t, w, a')) : a ≤ a' := by
  unfold rep at h
  split at h
  · split at h
    · cases h
    · split at h
      · cases h
      · rename_i x a2 hg
        have := get_mono hg
        injection h with h; injection h with _ h; injection h with _ h; omega
  · split at h
    · split at h
      · cases h
      · rename_i x a2 hg
        have := get_mono hg
        injection h with h; injection h with _ h; injection h with _ h; omega
    · split at h
      · split at h
        · cases h
        · rename_i x a2 hg
          have := get_mono hg
          injection h with h; injection h with _ h; injection h with _ h; omega
      · injection h with h; injection h with _ h; injection h with _ h; omega
theorem lens_grow {L : List UInt8} {f : Nat → Int} {want : Nat} : ∀ (F a : Nat) (l l' : List Nat) (a' : Nat), l.length ≤ want → lens L f want F a l = .ok (l', a') → a ≤ a' ∧ l'.length = want := by
  intro F
  induction F with
  | zero => intro a l l' a' _ h; cases h
  | succ F ih =>
    intro a l l' a' hl h
    simp only [lens] at h
    split at h
    · injection h with h; injection h with h1 h2; subst h1; exact ⟨by omega, by omega⟩
    · split at h
      · cases h
      · rename_i k a1 hn
        have h1 := (nxt_le hn).1
        split at h
        · cases h
        · rename_i t w a2 hr
          have h2 := rep_grow hr
          split at h
          · cases h
          · have := ih _ _ _ _ (by rw [List.length_append, List.length_replicate]; omega) h
            exact ⟨by omega, this.2⟩
theorem dyn_grow {L : List UInt8} {a a' : Nat} {l d : List Nat} (h : dyn L a = .ok (l, d, a')) : a ≤ a' := by
  unfold dyn at h
  split at h
  · cases h
  · rename_i m a1 h1
    split at h
    · cases h
    · rename_i r a2 h2
      split at h
      · cases h
      · rename_i w a3 h3
        split at h
        · cases h
        · split at h
          · cases h
          · rename_i f a4 h4
            split at h
            · cases h
            · split at h
              · cases h
              · rename_i l0 a5 h5
                split at h
                · cases h
                · split at h
                  · cases h
                  · split at h
                    · cases h
                    · have q1 := get_mono h1
                      have q2 := get_mono h2
                      have q3 := get_mono h3
                      have q4 := smalls_grow _ _ _ _ _ _ h4
                      have q5 := (lens_grow _ _ _ _ _ (Nat.zero_le _) h5).1
                      injection h with h; injection h with _ h; injection h with _ h
                      omega
theorem block_grow {L : List UInt8} {most a last a' : Nat} {out out' : List UInt8} {b : Blk} (ho : out.length ≤ most) (h : block L most a out = .ok (last, a', out', b)) : a < a' ∧ out'.length ≤ most := by
  unfold block at h
  split at h
  · cases h
  · rename_i la a1 h1
    split at h
    · cases h
    · rename_i kind a2 h2
      have q1 := get_mono h1
      have q2 := get_mono h2
      split at h
      · split at h
        · cases h
        · rename_i a3 o3 h3
          have := stored_grow h3
          injection h with h; injection h with _ h; injection h with e1 h; injection h with e2 _
          subst e1 e2; exact ⟨by omega, this.2⟩
      · split at h
        · split at h
          · cases h
          · rename_i a3 o3 tr h3
            have := toks_grow _ _ _ _ _ _ _ ho h3
            injection h with h; injection h with _ h; injection h with e1 h; injection h with e2 _
            subst e1 e2; exact ⟨by omega, this.2⟩
        · split at h
          · split at h
            · cases h
            · rename_i l r a3 h3
              have p1 := dyn_grow h3
              split at h
              · cases h
              · rename_i a4 o4 tr h4
                have := toks_grow _ _ _ _ _ _ _ ho h4
                injection h with h; injection h with _ h; injection h with e1 h; injection h with e2 _
                subst e1 e2; exact ⟨by omega, this.2⟩
          · cases h
section
variable {L : List UInt8} {most F a : Nat} {out : List UInt8} {bs : List Blk} {r : Except Nat (Nat × List UInt8 × List Blk)}
theorem blocks_err {c : Nat} (hF : 0 < F) (h : blocks L most F a out bs = r) (e : block L most a out = .error c) : r = .error c := by
  cases F with
  | zero => omega
  | succ F => simp only [blocks, e] at h; exact h.symm
theorem blocks_last {a1 : Nat} {out1 : List UInt8} {b : Blk} (hF : 0 < F) (h : blocks L most F a out bs = r) (e : block L most a out = .ok (1, a1, out1, b)) : r = .ok (a1, out1, bs ++ [b]) := by
  cases F with
  | zero => omega
  | succ F => simp only [blocks, e, if_pos] at h; exact h.symm
theorem blocks_go {last a1 : Nat} {out1 : List UInt8} {b : Blk} (hF : 0 < F) (h : blocks L most F a out bs = r) (e : block L most a out = .ok (last, a1, out1, b)) (hl : last ≠ 1) : ∃ F', F = F' + 1 ∧ blocks L most F' a1 out1 (bs ++ [b]) = r := by
  cases F with
  | zero => omega
  | succ F => simp only [blocks, e, if_neg hl] at h; exact ⟨F, rfl, h⟩
end
/-- a text of bytes, and how many there may be -/
noncomputable def infl (s : ByteArray) (most : Int) : Except Nat (List UInt8 × Nat × List Blk) :=
  if most < 0 ∨ 300000 < most ∨ 300000 < s.size then .error 1 else inf s.data.toList most.toNat
end Inf
end Go.Proofs.YtnhbjgmfbcedaaaDoor
