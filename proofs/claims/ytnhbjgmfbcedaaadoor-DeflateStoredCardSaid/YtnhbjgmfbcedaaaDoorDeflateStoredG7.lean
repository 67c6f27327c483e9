/-
  inflate: a dynamic block's lengths: the plain machine's steps, what stands beside a reader.
  slices.Grow of no row, slices.Concat of rows of whole numbers.
  inflate.FixedLengths.
  inflate: the closures that read a distance.
  The world of a region that draws its order, under a name. No function of the program is named.
-/
import Derived.Test.YtnhbjgmfbcedaaaDoorDeflateStoredG4
import Derived.Test.YtnhbjgmfbcedaaaDoorDeflateStoredG6
import Derived.Test.YtnhbjgmfbcedaaaDoorDeflateStoredG2
import Derived.Test.YtnhbjgmfbcedaaaDoorDeflateStoredG1
import Derived.Deep.Onto
import Derived.Deep.RegionHeld3
import Derived.RegionTactic
namespace Go.Proofs.YtnhbjgmfbcedaaaDoor
open Go.RowKit
set_option linter.unusedSimpArgs false
set_option maxRecDepth 100000
namespace Inf
open Classical in
noncomputable def dynFin (many far : Nat) (rl : Except Nat (List Nat × Nat)) : Except Nat (List Nat × List Nat × Nat) :=
  match rl with
  | .error c => .error c
  | .ok (l, a5) =>
    if ¬ good (fn (l.take many)) many then .error 0
    else if ¬ good (fn (l.drop many)) far then .error 0
    else if l.getD 256 0 = 0 then .error 0
    else .ok (l.take many, l.drop many, a5)
open Classical in
noncomputable def dynMid (L : List UInt8) (many far : Nat) (rs : Except Nat ((Nat → Int) × Nat)) : Except Nat (List Nat × List Nat × Nat) :=
  match rs with
  | .error c => .error c
  | .ok (f, a4) => if ¬ good f 19 then .error 0 else dynFin many far (lens L f (many + far) (many + far + 1) a4 [])
open Classical in
theorem dyn_eq (L : List UInt8) (a : Nat) : dyn L a = match get L 5 a with
    | .error c => .error c
    | .ok (m, a1) =>
      match get L 5 a1 with
      | .error c => .error c
      | .ok (r, a2) =>
        match get L 4 a2 with
        | .error c => .error c
        | .ok (w, a3) => if 286 < m + 257 ∨ 30 < r + 1 then .error 0 else dynMid L (m + 257) (r + 1) (smalls L (w + 4) 0 a3 (fun _ => 0)) := by
  rfl
section
variable {L : List UInt8} {many far : Nat} {r : Except Nat (List Nat × List Nat × Nat)} {c : Nat}
theorem mid_err {rs : Except Nat ((Nat → Int) × Nat)} (h : dynMid L many far rs = r) (e : rs = .error c) : .error c = r := by subst e; exact h
theorem mid_bad {f : Nat → Int} {a : Nat} {rs : Except Nat ((Nat → Int) × Nat)} (h : dynMid L many far rs = r) (e : rs = .ok (f, a)) (hg : ¬ good f 19) : .error 0 = r := by
  subst e; simp only [dynMid] at h; rw [if_pos hg] at h; exact h
theorem mid_go {f : Nat → Int} {a : Nat} {rs : Except Nat ((Nat → Int) × Nat)} (h : dynMid L many far rs = r) (e : rs = .ok (f, a)) (hg : good f 19) : dynFin many far (lens L f (many + far) (many + far + 1) a []) = r := by
  subst e; simp only [dynMid] at h; rw [if_neg (fun q => q hg)] at h; exact h
theorem fin_err {rl : Except Nat (List Nat × Nat)} (h : dynFin many far rl = r) (e : rl = .error c) : .error c = r := by subst e; exact h
theorem fin_bad1 {l : List Nat} {a : Nat} {rl : Except Nat (List Nat × Nat)} (h : dynFin many far rl = r) (e : rl = .ok (l, a)) (h1 : ¬ good (fn (l.take many)) many) : .error 0 = r := by
  subst e; simp only [dynFin] at h; rw [if_pos h1] at h; exact h
theorem fin_bad2 {l : List Nat} {a : Nat} {rl : Except Nat (List Nat × Nat)} (h : dynFin many far rl = r) (e : rl = .ok (l, a)) (h1 : good (fn (l.take many)) many) (h2 : ¬ good (fn (l.drop many)) far) : .error 0 = r := by
  subst e; simp only [dynFin] at h; rw [if_neg (fun q => q h1), if_pos h2] at h; exact h
theorem fin_bad3 {l : List Nat} {a : Nat} {rl : Except Nat (List Nat × Nat)} (h : dynFin many far rl = r) (e : rl = .ok (l, a)) (h1 : good (fn (l.take many)) many) (h2 : good (fn (l.drop many)) far) (h3 : l.getD 256 0 = 0) : .error 0 = r := by
  subst e; simp only [dynFin] at h; rw [if_neg (fun q => q h1), if_neg (fun q => q h2), if_pos h3] at h; exact h
theorem fin_ok {l : List Nat} {a : Nat} {rl : Except Nat (List Nat × Nat)} (h : dynFin many far rl = r) (e : rl = .ok (l, a)) (h1 : good (fn (l.take many)) many) (h2 : good (fn (l.drop many)) far) (h3 : l.getD 256 0 ≠ 0) : .ok (l.take many, l.drop many, a) = r := by
  subst e; simp only [dynFin] at h; rw [if_neg (fun q => q h1), if_neg (fun q => q h2), if_neg h3] at h; exact h
theorem smalls_err {n i a : Nat} {f : Nat → Int} {rs : Except Nat ((Nat → Int) × Nat)} (h : smalls L (n + 1) i a f = rs) (e : get L 3 a = .error c) : rs = .error c := by simp only [smalls, e] at h; exact h.symm
theorem smalls_go {n i a x a' : Nat} {f : Nat → Int} {rs : Except Nat ((Nat → Int) × Nat)} (h : smalls L (n + 1) i a f = rs) (e : get L 3 a = .ok (x, a')) : smalls L n (i + 1) a' (upd f (orderL.getD i 0) x) = rs := by simp only [smalls, e] at h; exact h
variable {f : Nat → Int} {want F a : Nat} {l : List Nat} {rl : Except Nat (List Nat × Nat)}
theorem lens_done (hF : 0 < F) (h : lens L f want F a l = rl) (hl : want ≤ l.length) : rl = .ok (l, a) := by
  cases F with
  | zero => omega
  | succ F => simp only [lens, if_pos hl] at h; exact h.symm
theorem lens_nx (hF : 0 < F) (h : lens L f want F a l = rl) (hl : ¬ want ≤ l.length) (e : nxt L f 19 a = .error c) : rl = .error c := by
  cases F with
  | zero => omega
  | succ F => simp only [lens, if_neg hl, e] at h; exact h.symm
theorem lens_rep {k a1 : Nat} (hF : 0 < F) (h : lens L f want F a l = rl) (hl : ¬ want ≤ l.length) (e : nxt L f 19 a = .ok (k, a1)) (e2 : rep L k a1 l = .error c) : rl = .error c := by
  cases F with
  | zero => omega
  | succ F => simp only [lens, if_neg hl, e, e2] at h; exact h.symm
theorem lens_over {k a1 a2 t what : Nat} (hF : 0 < F) (h : lens L f want F a l = rl) (hl : ¬ want ≤ l.length) (e : nxt L f 19 a = .ok (k, a1)) (e2 : rep L k a1 l = .ok (t, what, a2)) (ho : want < l.length + t) : rl = .error 0 := by
  cases F with
  | zero => omega
  | succ F => simp only [lens, if_neg hl, e, e2, if_pos ho] at h; exact h.symm
theorem lens_go {k a1 a2 t what : Nat} (hF : 0 < F) (h : lens L f want F a l = rl) (hl : ¬ want ≤ l.length) (e : nxt L f 19 a = .ok (k, a1)) (e2 : rep L k a1 l = .ok (t, what, a2)) (ho : ¬ want < l.length + t) : ∃ F', F = F' + 1 ∧ lens L f want F' a2 (l ++ List.replicate t what) = rl := by
  cases F with
  | zero => omega
  | succ F => simp only [lens, if_neg hl, e, e2, if_neg ho] at h; exact ⟨F, rfl, h⟩
theorem rep_nil : rep L 16 a [] = .error 0 := by unfold rep; rw [if_pos rfl, if_pos rfl]
theorem rep_16e (hl : l ≠ []) (e : get L 2 a = .error c) : rep L 16 a l = .error c := by unfold rep; rw [if_pos rfl, if_neg hl, e]
theorem rep_16 {x a' : Nat} (hl : l ≠ []) (e : get L 2 a = .ok (x, a')) : rep L 16 a l = .ok (3 + x, l.getD (l.length - 1) 0, a') := by unfold rep; rw [if_pos rfl, if_neg hl, e]
theorem rep_17e (e : get L 3 a = .error c) : rep L 17 a l = .error c := by unfold rep; rw [if_neg (by decide), if_pos rfl, e]
theorem rep_17 {x a' : Nat} (e : get L 3 a = .ok (x, a')) : rep L 17 a l = .ok (3 + x, 0, a') := by unfold rep; rw [if_neg (by decide), if_pos rfl, e]
theorem rep_18e (e : get L 7 a = .error c) : rep L 18 a l = .error c := by unfold rep; rw [if_neg (by decide), if_neg (by decide), if_pos rfl, e]
theorem rep_18 {x a' : Nat} (e : get L 7 a = .ok (x, a')) : rep L 18 a l = .ok (11 + x, 0, a') := by unfold rep; rw [if_neg (by decide), if_neg (by decide), if_pos rfl, e]
theorem rep_else {k : Nat} (h1 : k ≠ 16) (h2 : k ≠ 17) (h3 : k ≠ 18) : rep L k a l = .ok (1, k, a) := by unfold rep; rw [if_neg h1, if_neg h2, if_neg h3]
end
theorem orderL_lt : ∀ i, i < 19 → orderL.getD i 0 < 19 := by decide
end Inf
theorem IGo.keepS {w0 w wr w' : World} {R B a most : Nat} {s : ByteArray} {v0 v : Value} {out : List UInt8} {S : Nat → Prop} (h : IGo w0 w wr R B s a v0 v out most) (hk : Keeps S wr w') (hS : ∀ k, S k → w.heap.size ≤ k) (hw : w0.heap.size ≤ w.heap.size) (hR : ¬ S R) (hB : ¬ S B) (hv : ∀ k, v.ownBlock = some k → ¬ S k) : IGo w0 w w' R B s a v0 v out most :=
  ⟨⟨h.st.at_.keep hk hR hB hv, Below.trans h.st.old (hk.below h.st.old.size (fun k hk q => by have := hS k q; omega)), h.st.hR, h.st.hB, h.st.hv, h.st.le⟩,
    ⟨h.step.keeps.trans hk (fun i hi q => by have := hS i q; omega), h.step.new⟩⟩
theorem IGo.lts {w0 w wr : World} {R B a most : Nat} {s : ByteArray} {v0 v : Value} {out : List UInt8} (h : IGo w0 w wr R B s a v0 v out most) : R < wr.heap.size ∧ B < wr.heap.size ∧ ∀ k, v.ownBlock = some k → k < wr.heap.size :=
  ⟨h.bk.lt, h.st.at_.rd.lt, fun _ q => ownsRow_lt h.row q⟩
theorem gtree_yes (R B a most len cap : Nat) (x : Option Addr) (f : Nat → Int) (s : ByteArray) (v0 v : Value) (out : List UInt8) (w0 w wr : World) (E : Nat → Addr) (hE : Errs w0 E) (hI : IGo w0 w wr R B s a v0 v out most) (hx : Ints wr x len f) (hg : Inf.good f len) :
    Calls Tryd.prog 79 #[.pointer (some ⟨R, 0, none⟩), .slice x len cap] wr fun e w' => ∃ T, e = .returned (.pointer (some ⟨T, 0, none⟩)) ∧ Tr w' T f len R B v ∧ Ext wr w' := by
  obtain ⟨l1, l2, l3⟩ := hI.lts
  refine (rtree_yes R len cap x f w0 wr E hE hI.old hx hg).mono ?_
  rintro e w' ⟨⟨T, u, h1, h2, rfl, h3⟩, h4⟩
  exact ⟨T, rfl, ⟨⟨u, h3, fun k q => ⟨by have := h2 k q; omega, by have := h2 k q; omega, fun e => by have := h2 k q; have := l3 k e; omega⟩⟩, hg, by omega, by omega, fun e => by have := l3 T e; omega⟩, h4⟩
theorem gtree_no (R B a most len cap : Nat) (x : Option Addr) (f : Nat → Int) (s : ByteArray) (v0 v : Value) (out : List UInt8) (w0 w wr : World) (E : Nat → Addr) (hE : Errs w0 E) (hI : IGo w0 w wr R B s a v0 v out most) (hx : Ints wr x len f) (hl : len ≤ maxLen) (hg : ¬ Inf.good f len) :
    Calls Tryd.prog 79 #[.pointer (some ⟨R, 0, none⟩), .slice x len cap] wr fun e w' => e = thrown (E 0) ∧ Ext w0 w' := by
  refine (rtree_no R len cap x f w0 wr E hE hI.old hx hl hg).mono ?_
  rintro e w' ⟨rfl, h4⟩
  exact ⟨rfl, hI.st.gone (IStep.ext h4)⟩
/-- with the row of small lengths -/
structure SGo (w0 w wr : World) (R B : Nat) (s : ByteArray) (a : Nat) (v : Value) (out : List UInt8) (most G : Nat) (f : Nat → Int) : Prop where
  go : IGo w0 w wr R B s a v v out most
  cs : Cs wr G 19 .i64 f
  hG : w.heap.size ≤ G
  lt : R < w.heap.size ∧ B < w.heap.size ∧ ∀ k, v.ownBlock = some k → k < w.heap.size
  hw : w0.heap.size ≤ w.heap.size
theorem cs_keeps {w w' : World} {B n : Nat} {k : IntKind} {g : Nat → Int} {S : Nat → Prop} (h : Cs w B n k g) (hk : Keeps S w w') (hB : ¬ S B) : Cs w' B n k g := Cv.keeps (g := fun i => .int k (g i)) h hk hB
section
variable {w0 w wr w' : World} {R B a a' most G : Nat} {f f' : Nat → Int} {s : ByteArray} {v : Value} {out : List UInt8}
theorem SGo.old (h : SGo w0 w wr R B s a v out most G f) : Ext w0 wr := h.go.old
theorem SGo.bk (h : SGo w0 w wr R B s a v out most G f) : Bk wr R #[.pointer (some ⟨B, 0, none⟩), v, .int .i64 (most : Int)] := h.go.bk
theorem SGo.ext (h : SGo w0 w wr R B s a v out most G f) (hE : Ext wr w') : SGo w0 w w' R B s a v out most G f := ⟨h.go.ext hE, cs_keeps (S := fun _ => False) h.cs hE.keeps id, h.hG, h.lt, h.hw⟩
theorem SGo.rd (h : SGo w0 w wr R B s a v out most G f) (hG : IGo w0 w w' R B s a' v v out most) (hS : RStep wr w' B 0) : SGo w0 w w' R B s a' v out most G f :=
  ⟨hG, cs_keeps h.cs hS.keeps (fun e => by have := h.hG; have := h.lt.2.1; omega), h.hG, h.lt, h.hw⟩
theorem SGo.put (h : SGo w0 w wr R B s a v out most G f) (j : Nat) (x : Int) (hj : j < 19) : SGo w0 w (wr.setCell ⟨G, j, none⟩ (.int .i64 x)) R B s a v out most G (Inf.upd f j x) := by
  have hGl := h.hG
  have hlt := h.lt
  refine ⟨h.go.keepS (S := fun k => k = G) ((Keeps.refl (fun k => k = G) _).setCell (p := ⟨G, j, none⟩) (.inl rfl) _) (fun k q => by omega) h.hw (fun q => by omega) (fun q => by omega) (fun k q e => by have := hlt.2.2 k q; omega), h.cs.put j x _ hj (fun i _ => rfl), h.hG, h.lt, h.hw⟩
theorem SGo.ints (h : SGo w0 w wr R B s a v out most G f) (hb : ∀ i, 0 ≤ f i ∧ f i ≤ 7) : Ints wr (some ⟨G, 0, none⟩) 19 f := by
  refine ⟨fun e => (by cases e), fun p hp i hi => ?_⟩
  injection hp with hp; subst hp
  rw [add_plain]
  have := hb i
  exact ⟨(h.cs i hi).1, by omega, by omega⟩
end
theorem intsV_append (l m : List Nat) : intsV (l ++ m).length (Inf.fn (l ++ m)) = intsV l.length (Inf.fn l) ++ intsV m.length (Inf.fn m) := by
  unfold intsV Inf.fn
  apply List.ext_getElem
  · simp
  · intro i h1 h2
    by_cases hi : i < l.length
    · rw [List.getElem_append_left (by simpa using hi)]
      simp [List.getD, hi, List.getElem?_append_left]
    · rw [List.getElem_append_right (by simp; omega)]
      simp [List.getD, List.getElem?_append_right (Nat.le_of_not_lt hi)]
theorem intsV_rep (t what : Nat) : intsV (List.replicate t what).length (Inf.fn (List.replicate t what)) = List.replicate t (.int .i64 (what : Int)) := by
  unfold intsV Inf.fn
  apply List.ext_getElem
  · simp
  · intro i h1 h2
    have : i < t := by simpa using h2
    simp [List.getD, this]
/-- with the row of lengths as far as it goes -/
structure LGo (w0 w w5 wr : World) (R B : Nat) (s : ByteArray) (a : Nat) (v : Value) (out : List UInt8) (most : Nat) (vl : Value) (l : List Nat) : Prop where
  go : IGo w0 w wr R B s a v v out most
  st : IStep w5 wr R B v v
  row : wr.ownsRow w5.heap.size 3 1 vl l.length (intsV l.length (Inf.fn l))
  lt : R < w5.heap.size ∧ B < w5.heap.size ∧ ∀ k, v.ownBlock = some k → k < w5.heap.size
  hw : w0.heap.size ≤ w.heap.size ∧ w.heap.size ≤ w5.heap.size
  bd : ∀ x ∈ l, x ≤ 18
section
variable {w0 w w5 wr w' : World} {R B a a' most g n c : Nat} {s : ByteArray} {v vl vl' : Value} {out : List UInt8} {l : List Nat}
theorem LGo.old (h : LGo w0 w w5 wr R B s a v out most vl l) : Ext w0 wr := h.go.old
theorem LGo.bk (h : LGo w0 w w5 wr R B s a v out most vl l) : Bk wr R #[.pointer (some ⟨B, 0, none⟩), v, .int .i64 (most : Int)] := h.go.bk
theorem LGo.keepS (h : LGo w0 w w5 wr R B s a v out most vl l) {S : Nat → Prop} (hk : Keeps S wr w') (hS : ∀ k, S k → w5.heap.size ≤ k) : IGo w0 w w' R B s a v v out most ∧ IStep w5 w' R B v v :=
  ⟨h.go.keepS hk (fun k q => by have := hS k q; have := h.hw; omega) h.hw.1 (fun q => by have := hS _ q; have := h.lt; omega) (fun q => by have := hS _ q; have := h.lt; omega) (fun k q e => by have := hS _ e; have := h.lt.2.2 k q; omega),
    ⟨h.st.keeps.trans hk (fun i hi q => by have := hS _ q; omega), h.st.new⟩⟩
theorem LGo.ext (h : LGo w0 w w5 wr R B s a v out most vl l) (hE : Ext wr w') : LGo w0 w w5 w' R B s a v out most vl l :=
  ⟨h.go.ext hE, h.st.trans (IStep.ext hE), ownsRow_kept (S := fun _ => False) h.row hE.keeps (fun _ _ q => q), h.lt, h.hw, h.bd⟩
theorem LGo.rd (h : LGo w0 w w5 wr R B s a v out most vl l) (hG : IGo w0 w w' R B s a' v v out most) (hS : RStep wr w' B 0) : LGo w0 w w5 w' R B s a' v out most vl l :=
  ⟨hG, h.st.trans (IStep.rd hS), ownsRow_kept h.row hS.keeps (fun k q e => by have := (h.row.lt k q).1; have := h.lt.2.1; omega), h.lt, h.hw, h.bd⟩
theorem LGo.grow (h : LGo w0 w w5 wr R B s a v out most vl l) {n t what : Nat} (hn : l.length = n) (hg : wr.grownBy w' vl.ownBlock) (ho : w'.ownsRow w5.heap.size 3 1 vl' (n + t) (intsV n (Inf.fn l) ++ List.replicate t (.int .i64 (what : Int)))) (hx : what ≤ 18) :
    LGo w0 w w5 w' R B s a v out most vl' (l ++ List.replicate t what) := by
  have hk := Keeps.grown hg
  have q := h.keepS hk (fun k e => (h.row.lt k e).1)
  refine ⟨q.1, q.2, ?_, h.lt, h.hw, ?_⟩
  · rw [intsV_append, intsV_rep, List.length_append, List.length_replicate, hn]; exact ho
  · intro x hx'
    rcases List.mem_append.1 hx' with e | e
    · exact h.bd x e
    · rw [List.eq_of_mem_replicate e]; exact hx
theorem fn_le (hb : ∀ x ∈ l, x ≤ 18) (i : Nat) : 0 ≤ Inf.fn l i ∧ Inf.fn l i ≤ 18 := by
  unfold Inf.fn
  by_cases hi : i < l.length
  · have := hb l[i] (List.getElem_mem hi)
    simp [List.getD, hi]; omega
  · simp [List.getD, List.getElem?_eq_none (Nat.le_of_not_lt hi)]
theorem LGo.cell (h : LGo w0 w w5 wr R B s a v out most (.slice (some ⟨g, 0, none⟩) n c) l) (hn : l.length = n) (i : Nat) (hi : i < n) : wr.cell? ⟨g, i, none⟩ = some (.int .i64 ((l.getD i 0 : Nat) : Int)) := by
  have q := h.row
  rw [hn] at q
  rw [q.cellAt i (by omega), intsV_get _ _ i hi]; rfl
theorem LGo.take (h : LGo w0 w w5 wr R B s a v out most (.slice (some ⟨g, 0, none⟩) n c) l) (hn : l.length = n) (m : Nat) (hm : m ≤ n) : Ints wr (some ⟨g, 0, none⟩) m (Inf.fn (l.take m)) := by
  refine ⟨fun e => (by cases e), fun p hp i hi => ?_⟩
  injection hp with hp; subst hp
  rw [add_plain]
  have e : Inf.fn (l.take m) i = Inf.fn l i := by unfold Inf.fn; simp [List.getD, hi]
  have := fn_le h.bd i
  rw [e]
  exact ⟨h.cell hn i (by omega), by omega, by omega⟩
theorem LGo.drop (h : LGo w0 w w5 wr R B s a v out most (.slice (some ⟨g, 0, none⟩) n c) l) (hn : l.length = n) (m k : Nat) (hm : m + k = n) : Ints wr (some ⟨g, m, none⟩) k (Inf.fn (l.drop m)) := by
  refine ⟨fun e => (by cases e), fun p hp i hi => ?_⟩
  injection hp with hp; subst hp
  have e : Inf.fn (l.drop m) i = Inf.fn l (m + i) := by unfold Inf.fn; simp [List.getD, List.getElem?_drop]
  have := fn_le h.bd (m + i)
  rw [e, show (⟨g, m, none⟩ : Addr).add i = ⟨g, m + i, none⟩ by unfold Addr.add; split <;> simp_all]
  exact ⟨h.cell hn (m + i) (by omega), by omega, by omega⟩
end
theorem order_slice (few : Nat) (h : few ≤ 19) (w : World) : (Instr.sliceAt 129 (.pointer (some ⟨9, 0, none⟩)) none (some (.int .i64 (few : Int))) none).run Tryd.prog w = .ok (.slice (some ⟨9, 0, none⟩) few 19) w := by
  have hl : Tryd.prog.arrayLen 129 = 19 := by kernel_rfl
  rw [run_sliceAt_array_h (P := Tryd.prog) w 129 _ Tryd.underlying129 .i64 (few : Int) (by omega) (by rw [hl]; omega), hl]
  have hs : (sizeOf (Tryd.prog.elem 129)).run Tryd.prog w = .ok 1 w := by kernel_rfl
  rw [hs]
  simp [Result.andThen, slicedAt, add_plain]
def DPost (w0 w : World) (R B : Nat) (s : ByteArray) (most : Nat) (v : Value) (out : List UInt8) (E : Nat → Addr) (r : Except Nat (List Nat × List Nat × Nat)) (e : Ending) (w' : World) : Prop :=
  match r with
  | .ok (l, d, a) => ∃ T U, e = .returned (.tuple #[.pointer (some ⟨T, 0, none⟩), .pointer (some ⟨U, 0, none⟩)]) ∧ IGo w0 w w' R B s a v v out most ∧ Tr w' T (Inf.fn l) l.length R B v ∧ Tr w' U (Inf.fn d) d.length R B v
  | .error c => e = thrown (E c) ∧ Ext w0 w'
theorem dpost_error {w0 w w' : World} {R B c most : Nat} {s : ByteArray} {v : Value} {out : List UInt8} {E : Nat → Addr} {r : Except Nat (List Nat × List Nat × Nat)} (hr : .error c = r) (h : Ext w0 w') : DPost w0 w R B s most v out E r (thrown (E c)) w' := by
  subst hr; exact ⟨rfl, h⟩
theorem dpost_ok {w0 w w' : World} {R B a most T U : Nat} {s : ByteArray} {v : Value} {out : List UInt8} {E : Nat → Addr} {l d : List Nat} {r : Except Nat (List Nat × List Nat × Nat)} (hr : .ok (l, d, a) = r) (h : IGo w0 w w' R B s a v v out most) (hT : Tr w' T (Inf.fn l) l.length R B v) (hU : Tr w' U (Inf.fn d) d.length R B v) :
    DPost w0 w R B s most v out E r (.returned (.tuple #[.pointer (some ⟨T, 0, none⟩), .pointer (some ⟨U, 0, none⟩)])) w' := by
  subst hr; exact ⟨T, U, rfl, h, hT, hU⟩
end Go.Proofs.YtnhbjgmfbcedaaaDoor
namespace Go.Proofs.YtnhbjgmfbcedaaaDoor
open Go.RowKit
set_option linter.unusedSimpArgs false
set_option maxRecDepth 100000
theorem run_append_zeros {P : Program} (w : World) (t u ty e : TypeId) (i : TypeInfo) (z : Value) (k : IntKind) (ht : P.underlying t = some (.slice e)) (hu : P.underlying u = some (.int k)) (hi : P.info? e = some i) (hz : i.zero = some z)
    (n : Nat) (h0 : 0 < n) (h63 : n ≤ 1000000) (hby : i.bytes ≤ 64) (hsz : 0 < i.size) :
    (Builtin.append_ #[t, u] ty #[.slice none 0 0, .int .i64 (n : Int)]).run P w =
      .ok (.slice (some ⟨w.heap.size, 0, none⟩) n (grownCap w n 0 e)) (w.drew.alloc (.cells (Builtin.zeroCells z.cells n ++ Builtin.zeroCells z.cells (grownCap w n 0 e - n)) e)) := by
  have hn : n ≠ 0 := by omega
  have hw : IntKind.i64.wrap (n : Int) = (n : Int) := by rw [IntKind.wrap_i64]; omega
  have h0' : ¬ ((n : Int) < 0) := by omega
  have h63' : ¬ (9223372036854775807 < (n : Int)) := by omega
  have hmul : n * i.bytes ≤ 64000000 := by
    have := Nat.mul_le_mul h63 hby
    omega
  have hb : ¬ (281474976710656 < (n : Int) * (i.bytes : Int)) := by
    have : (n : Int) * (i.bytes : Int) = ((n * i.bytes : Nat) : Int) := by simp
    omega
  have h48' : ¬ (281474976710656 < Builtin.nextslicecap n 0 * i.bytes) := by rw [nextslicecap_zero h0]; omega
  simp [Builtin.append_, run_underlying ht, run_underlying hu, sizeOf, typeInfo, zeroValue, hi, hz, asInt, asIntOf, hw, h0', hb, hn, h63', h48', Question.forced, run_firstCells_none, newRow, grownCap]
  intro h; exact absurd h (by have := Nat.mul_pos h0 hsz; omega)
theorem wpList_app_zeros {P : Program} {w : World} {ops : Array Oper} {rest : List Oper} {o : Oper} {a : Act} {Q : Exit → Act → World → Prop} (hgd : o.guard = none) (sl x : Operand) (t u : TypeId)
    (ho : o.op = .call { callee := .builtin .append, args := #[sl, x], argTypes := #[t, u] }) (e : TypeId) (i : TypeInfo) (z : Value) (k : IntKind) (ht : P.underlying t = some (.slice e)) (hu : P.underlying u = some (.int k)) (hi : P.info? e = some i) (hz : i.zero = some z)
    (hzs : z.cells.size = i.size) (n : Nat) (hs : a.eval sl = .slice none 0 0) (hx : a.eval x = .int .i64 (n : Int)) (h0 : 0 < n) (h63 : n ≤ 1000000) (hby : i.bytes ≤ 64) (hsz : 0 < i.size)
    (h : ∀ C cs, n ≤ C → C ≤ maxLen → cs.size = C * i.size → wpList P ops Q rest (a.put o.dst (.slice (some ⟨w.heap.size, 0, none⟩) n C)) (w.drew.alloc (.cells cs e))) : wpList P ops Q (o :: rest) a w := by
  refine wpList_plain hgd fun K hK => ?_
  have hr := run_append_zeros (P := P) w t u o.type e i z k ht hu hi hz n h0 h63 hby hsz
  have hge := grownCap_ge w n 0 e
  unfold Oper.wp execOp
  simp only [ho, resolve, invoke, builtin, Sem.run_bind, Sem.run_pure, Result.andThen_ok, List.map_toArray, List.map_cons, List.map_nil, hs, hx, hr]
  refine hK _ _ (h _ _ hge (grownCap_le_maxLen w n 0 e (by unfold maxLen; omega)) ?_)
  rw [Array.size_append, size_zeroCells, size_zeroCells, ← Nat.add_mul, hzs]
  congr 1; omega
/-- rows, one behind the other -/
def concL (ls : Nat → List Int) : Nat → List Int
  | 0 => []
  | m + 1 => concL ls m ++ ls m
theorem concL_mono (ls : Nat → List Int) (m : Nat) : ∀ d, (concL ls m).length ≤ (concL ls (m + d)).length
  | 0 => Nat.le_refl _
  | d + 1 => by
    have := concL_mono ls m d
    show _ ≤ (concL ls (m + d) ++ ls (m + d)).length
    rw [List.length_append]; omega
def i64V (l : List Int) : List Value := l.map (fun x => Value.int .i64 x)
/-- a row of whole numbers, not empty -/
def Ir (w : World) (v : Value) (l : List Int) : Prop := 0 < l.length ∧ ∃ g c, v = .slice (some ⟨g, 0, none⟩) l.length c ∧ ∀ j, j < l.length → w.cell? ⟨g, j, none⟩ = (i64V l)[j]?
theorem Ir.ext {w w' : World} {v : Value} {l : List Int} (h : Ir w v l) (hE : Ext w w') : Ir w' v l := by
  obtain ⟨h0, g, c, rfl, h1⟩ := h
  refine ⟨h0, g, c, rfl, fun j hj => ?_⟩
  have hl : g < w.heap.size := by
    have := h1 0 h0
    rw [List.getElem?_eq_getElem (by simpa [i64V] using h0)] at this
    exact World.block_lt_of_cell? w _ this
  exact (Below.cell hE (p := ⟨g, j, none⟩) hl).trans (h1 j hj)
theorem grow_nil (n : Nat) (w : World) (h0 : 0 < n) (hn : n ≤ 100000) :
    Calls Tryd.prog 125 #[.slice none 0 0, .int .i64 (n : Int)] w fun e w' => (∃ c, e = .returned (.slice (some ⟨w.heap.size, 0, none⟩) 0 c) ∧ w'.ownsRow w.heap.size 3 1 (.slice (some ⟨w.heap.size, 0, none⟩) 0 c) 0 []) ∧ Ext w w' := by
  obtain ⟨i0, hi0, hz0, hz1, hz2⟩ := info_parts i64info
  have n1 : ¬ (n : Int) < 0 := by omega
  have n2 : decide ((0 : Int) < (n : Int)) = true := decide_eq_true (by omega)
  have wn : ∀ z, z = (n : Int) → IntKind.i64.wrap z = z := by rintro _ rfl; rw [IntKind.wrap_i64]; omega
  go_enter Tryd.func125, Tryd.ntmps125
  go_wp2_with (at_builtin; refine wpList_app_zeros rfl _ _ 31 3 rfl 3 i0 (.int .i64 0) .i64 Tryd.underlying31 Tryd.underlying3 hi0 hz0 (by rw [hz1]; rfl) n rfl rfl h0 (by omega) (by omega) (by omega) ?_)
  intro C cs hC1 hC2 hcs
  have hne : ¬ C = 0 := by omega
  go_wp2_with fail
  go_ret
  refine ⟨⟨C, rfl, by simp, .inr ⟨w.heap.size, C, cs, rfl, Nat.le_refl _, heap_alloc_new w.drew _, Nat.zero_le _, hC2, by omega, by simp⟩⟩, (show Ext w w.drew from Below.drew (Ext.refl _)).alloc _⟩
set_option maxHeartbeats 2000000 in
theorem concat_any (S m c : Nat) (vs : Nat → Value) (ls : Nat → List Int) (w : World) (hm : 1 ≤ m) (hmm : m ≤ 1000) (hS : ∀ i, i < m → w.cell? ⟨S, i, none⟩ = some (vs i)) (hr : ∀ i, i < m → Ir w (vs i) (ls i)) (htot : (concL ls m).length ≤ 100000) :
    Calls Tryd.prog 101 #[.slice (some ⟨S, 0, none⟩) m c] w fun e w' => (∃ v, e = .returned v ∧ w'.ownsRow w.heap.size 3 1 v (concL ls m).length (i64V (concL ls m))) ∧ Ext w w' := by
  obtain ⟨i0, hi0, hz0, hz1, hz2⟩ := info_parts i64info
  have HS := Lib.hid hS
  have HR := Lib.hid hr
  have hpos : 0 < (concL ls m).length := by
    have h1 := concL_mono ls 1 (m - 1)
    rw [show 1 + (m - 1) = m by omega] at h1
    have h2 := (hr 0 (by omega)).1
    have h3 : (concL ls 1).length = (ls 0).length := by simp [concL]
    omega
  have hle : ∀ i, i ≤ m → (concL ls i).length ≤ 100000 := fun i hi => by
    have := concL_mono ls i (m - i)
    rw [show i + (m - i) = m by omega] at this
    omega
  have HL := Lib.hid hle
  clear hS hr hle
  go_enter Tryd.func101, Tryd.ntmps101
  go_wp2_with fail
  go_loopw [3, 11] (fun z x wr => ∃ i : Nat, i ≤ m ∧ x = .int .i64 i ∧ z = .int .i64 ((concL ls i).length : Int) ∧ wr = w) (fun _ x _ => m - (intOf x).toNat)
  case atStart => exact ⟨0, by omega, rfl, by first | rfl | trivial, by first | rfl | trivial⟩
  case round =>
    obtain ⟨i, hi, rfl, rfl, hw⟩ := hrel
    have hw2 := hw.symm
    clear hw
    subst hw2
    by_cases hlt : i < m
    · obtain ⟨h0, g, cc, hv, hc⟩ := HR.out i hlt
      have hs := HS.out i hlt
      rw [hv] at hs
      have hb := HL.out (i + 1) (by omega)
      have e : (concL ls (i + 1)).length = (concL ls i).length + (ls i).length := by simp [concL]
      have wi : ∀ z, z = (i : Int) + 1 → IntKind.i64.wrap z = z := by rintro _ rfl; rw [IntKind.wrap_i64]; omega
      obtain ⟨P, hP⟩ : ∃ P, (concL ls i).length = P := ⟨_, rfl⟩
      obtain ⟨Q, hQ⟩ : ∃ Q, (concL ls (i + 1)).length = Q := ⟨_, rfl⟩
      have HQ := Lib.hid hQ
      rw [hP] at e ⊢
      rw [hQ] at e hb
      have hPQ : (P : Int) + ((ls i).length : Int) = (Q : Int) := by omega
      have wq : ∀ z, z = (Q : Int) → IntKind.i64.wrap z = z := by rintro _ rfl; rw [IntKind.wrap_i64]; omega
      have hq0 : ¬ (Q : Int) < 0 := by omega
      clear hP hQ hv hc e
      go_wp2_with fail
      go_roundw
      case rel => exact ⟨i + 1, by omega, by go_num, by rw [HQ.out], by first | rfl | trivial⟩
      case measure => simp [intOf]; omega
    · obtain rfl : i = m := by omega
      obtain ⟨T, hT⟩ : ∃ T, (concL ls i).length = T := ⟨_, rfl⟩
      have HT := Lib.hid hT
      rw [hT] at hpos htot ⊢
      clear hT
      go_wp2_with fail
      refine (grow_nil T w hpos htot).mono ?_
      rintro e w1 ⟨⟨C, rfl, ho⟩, hX⟩
      have HX := Lib.hid hX
      have HO : Hid (w1.ownsRow w.heap.size 3 1 (.slice (some ⟨w.heap.size, 0, none⟩) 0 C) (concL ls 0).length (i64V (concL ls 0))) := Lib.hid ho
      clear ho hX
      go_wp2_with fail
      go_loopw [6, 27] (fun z x wz => ∃ k : Nat, k ≤ i ∧ x = .int .i64 k ∧ Hid (wz.ownsRow w.heap.size 3 1 z (concL ls k).length (i64V (concL ls k))) ∧ Hid (Ext w wz)) (fun _ x _ => i - (intOf x).toNat)
      case atStart => exact ⟨0, by omega, rfl, HO, HX⟩
      case round =>
        clear HO HX
        obtain ⟨k, hk, rfl, HO, HX⟩ := hrel
        by_cases hlt : k < i
        · obtain ⟨h0, g, cc, hv, hc⟩ := HR.out k hlt
          have hs := ext_cell HX.out (HS.out k hlt)
          rw [hv] at hs
          have hb := HL.out (k + 1) (by omega)
          have e : (concL ls (k + 1)).length = (concL ls k).length + (ls k).length := by simp [concL]
          have wi : ∀ z, z = (k : Int) + 1 → IntKind.i64.wrap z = z := by rintro _ rfl; rw [IntKind.wrap_i64]; omega
          obtain ⟨P, hP⟩ : ∃ P, (concL ls k).length = P := ⟨_, rfl⟩
          obtain ⟨Q, hQ⟩ : ∃ Q, (concL ls (k + 1)).length = Q := ⟨_, rfl⟩
          have HQ := Lib.hid hQ
          obtain ⟨N, hN⟩ : ∃ N, (ls k).length = N := ⟨_, rfl⟩
          have ho := HO.out
          rw [hP] at e ho
          rw [hQ] at e hb
          rw [hN] at e hs hc h0
          obtain ⟨xo, co, rfl⟩ := lit_row ho
          have HO2 := Lib.hid ho
          have HC := Lib.hid hc
          have HN := Lib.hid hN
          have hzz := HX.out.size
          have HEq := Lib.hid e
          clear hP hQ hv hc ho hN HO e
          go_wp2_with (at_builtin; refine wpList_append_own_at _ rfl _ _ 31 rfl w.heap.size 3 i0 (.int .i64 0) 1 8 Tryd.underlying31 hi0 hz0 hz1 hz2 rfl (by decide) _ _ _ rfl HO2.out ⟨g, 0, none⟩ N cc (i64V (ls k)) rfl ?c1 ?c2 ?c6 ?c3 ?c4 hzz ?_)
          case c1 => simp [i64V, HN.out]
          case c2 =>
            intro j u hj
            have hj1 := (List.getElem?_eq_some_iff.1 hj).1
            simp only [i64V, List.length_map, HN.out] at hj1
            rw [add_plain, ext_cell HX.out ((HC.out j hj1).trans hj)]
          case c6 => intro u hu; obtain ⟨x, _, rfl⟩ := List.mem_map.1 hu; rfl
          case c3 => have := HEq.out; unfold maxLen; omega
          case c4 => have := HEq.out; omega
          intro v' w2 hown hgrow _ _
          have HO3 : Hid (w2.ownsRow w.heap.size 3 1 v' (concL ls (k + 1)).length (i64V (concL ls (k + 1)))) := Lib.hid (by
            rw [HQ.out, HEq.out, show i64V (concL ls (k + 1)) = i64V (concL ls k) ++ i64V (ls k) by simp [i64V, concL]]; exact hown)
          have HX3 := Lib.hid (Below.trans HX.out ((Keeps.grown hgrow).below hzz (fun q hq e => by have := (HO2.out.lt q e).1; omega)))
          clear hown hgrow
          go_wp2_with fail
          go_roundw
          case rel => exact ⟨k + 1, by omega, by go_num, HO3, HX3⟩
          case measure => simp [intOf]; omega
        · obtain rfl : k = i := by omega
          go_wp2_with fail
          go_ret
          have h1 := HO.out
          rw [HT.out] at h1
          first | exact ⟨⟨_, rfl, HO.out⟩, HX.out⟩ | exact ⟨⟨_, rfl, by rw [HT.out]; exact h1⟩, HX.out⟩
end Go.Proofs.YtnhbjgmfbcedaaaDoor
namespace Go.Proofs.YtnhbjgmfbcedaaaDoor
open Go.RowKit
set_option linter.unusedSimpArgs false
set_option maxRecDepth 100000
theorem Ir.rep {w : World} {g n c : Nat} {x : Int} (h0 : 0 < n) (h : Cv w g n (fun _ => .int .i64 x)) : Ir w (.slice (some ⟨g, 0, none⟩) n c) (List.replicate n x) := by
  refine ⟨by simpa using h0, g, c, by simp, fun j hj => ?_⟩
  have hj1 : j < n := by simpa using hj
  rw [(h j hj1).1]
  simp [i64V, hj1]
def fixLs : Nat → List Int
  | 0 => List.replicate 144 8
  | 1 => List.replicate 112 9
  | 2 => List.replicate 24 7
  | _ => List.replicate 8 8
theorem fixLs_eq : concL fixLs 4 = (List.range 288).map Inf.fixF := by decide +kernel
theorem ints_of_i64V {w : World} {base : Nat} {v : Value} {n : Nat} {f : Nat → Int} (h : w.ownsRow base 3 1 v n (i64V ((List.range n).map f))) (hb : ∀ i, i < n → -9223372036854775808 ≤ f i ∧ f i ≤ 9223372036854775807) :
    ∃ x cap, v = .slice x n cap ∧ Ints w x n f := by
  refine Ints.of_own (base := base) ?_ hb
  have e : i64V ((List.range n).map f) = intsV n f := by simp [i64V, intsV]
  rw [← e]; exact h
set_option maxHeartbeats 1000000 in
theorem fixed_any (w : World) : Calls Tryd.prog 80 #[] w fun e w' => (∃ x c, e = .returned (.slice x 288 c) ∧ Ints w' x 288 Inf.fixF ∧ w'.ownsRow w.heap.size 3 1 (.slice x 288 c) 288 (intsV 288 Inf.fixF)) ∧ Ext w w' := by
  go_enter Tryd.func80, Tryd.ntmps80
  go_wp2_with fail
  refine (repi_any w.heap.size 144 8 _ (by simp) (by decide) (by decide)).mono ?_
  rintro e w1 ⟨⟨g1, c1, rfl, hc1, _, _⟩, hX1⟩
  have HC1 := Lib.hid (Ir.rep (c := c1) (by decide) hc1)
  have HX1 := Lib.hid (Ext.trans ((Ext.refl w).alloc _) hX1)
  clear hc1 hX1
  go_wp2_with fail
  refine (repi_any w1.heap.size 112 9 _ (by simp) (by decide) (by decide)).mono ?_
  rintro e w2 ⟨⟨g2, c2, rfl, hc2, _, _⟩, hX2⟩
  have hX := Ext.trans ((Ext.refl w1).alloc _) hX2
  have HC2 := Lib.hid (Ir.rep (c := c2) (by decide) hc2)
  have HD1 := Lib.hid (HC1.out.ext hX)
  have HX2 := Lib.hid (HX1.out.trans hX)
  clear hc2 hX2 HC1 HX1 hX
  go_wp2_with fail
  refine (repi_any w2.heap.size 24 7 _ (by simp) (by decide) (by decide)).mono ?_
  rintro e w3 ⟨⟨g3, c3, rfl, hc3, _, _⟩, hX3⟩
  have hX := Ext.trans ((Ext.refl w2).alloc _) hX3
  have HC3 := Lib.hid (Ir.rep (c := c3) (by decide) hc3)
  have HE1 := Lib.hid (HD1.out.ext hX)
  have HE2 := Lib.hid (HC2.out.ext hX)
  have HX3 := Lib.hid (HX2.out.trans hX)
  clear hc3 hX3 HD1 HC2 HX2 hX
  go_wp2_with fail
  refine (repi_any w3.heap.size 8 8 _ (by simp) (by decide) (by decide)).mono ?_
  rintro e w4 ⟨⟨g4, c4, rfl, hc4, _, _⟩, hX4⟩
  have hX := Ext.trans ((Ext.refl w3).alloc _) hX4
  have HC4 := Lib.hid (Ir.rep (c := c4) (by decide) hc4)
  have HF1 := Lib.hid (HE1.out.ext hX)
  have HF2 := Lib.hid (HE2.out.ext hX)
  have HF3 := Lib.hid (HC3.out.ext hX)
  have HX4 := Lib.hid (HX3.out.trans hX)
  clear hc4 hX4 HE1 HE2 HC3 HX3 hX
  go_wp2_with fail
  refine calls_world (fun wz => Ext w4 wz ∧ Bk wz w4.heap.size #[.slice (some ⟨g1, 0, none⟩) 144 c1, .slice (some ⟨g2, 0, none⟩) 112 c2, .slice (some ⟨g3, 0, none⟩) 24 c3, .slice (some ⟨g4, 0, none⟩) 8 c4]) ⟨(Ext.refl _).alloc _, Bk.at rfl⟩ ?_
  rintro w5 ⟨hX, hB⟩
  have HB := Lib.hid hB
  have HX5 := Lib.hid (HX4.out.trans hX)
  have HG1 := Lib.hid (HF1.out.ext hX)
  have HG2 := Lib.hid (HF2.out.ext hX)
  have HG3 := Lib.hid (HF3.out.ext hX)
  have HG4 := Lib.hid (HC4.out.ext hX)
  clear hX hB HF1 HF2 HF3 HC4 HX4
  refine (concat_any w4.heap.size 4 4 (fun i => (#[Value.slice (some ⟨g1, 0, none⟩) 144 c1, .slice (some ⟨g2, 0, none⟩) 112 c2, .slice (some ⟨g3, 0, none⟩) 24 c3, .slice (some ⟨g4, 0, none⟩) 8 c4]).getD i undef) fixLs w5 (by decide) (by decide) ?_ ?_ (by rw [fixLs_eq]; simp)).mono ?_
  · intro i hi
    rw [HB.out.cell i]
    simp [hi]
  · intro i hi
    rcases (show i = 0 ∨ i = 1 ∨ i = 2 ∨ i = 3 by omega) with rfl | rfl | rfl | rfl
    · exact HG1.out
    · exact HG2.out
    · exact HG3.out
    · exact HG4.out
  rintro e w6 ⟨⟨v, rfl, ho⟩, hX⟩
  rw [fixLs_eq] at ho
  rw [List.length_map, List.length_range] at ho
  have hb : ∀ i, i < 288 → -9223372036854775808 ≤ Inf.fixF i ∧ Inf.fixF i ≤ 9223372036854775807 := by
    intro i _; unfold Inf.fixF; split <;> (try split) <;> (try split) <;> omega
  obtain ⟨x, c, rfl, hI⟩ := ints_of_i64V ho hb
  have HI := Lib.hid hI
  have e : i64V ((List.range 288).map Inf.fixF) = intsV 288 Inf.fixF := by simp [i64V, intsV]
  rw [e] at ho
  have HO : Hid (w6.ownsRow w.heap.size 3 1 (.slice x 288 c) 288 (intsV 288 Inf.fixF)) := Lib.hid (ho.mono HX5.out.size)
  have HX6 := Lib.hid (HX5.out.trans hX)
  clear ho hX hI hb e
  go_wp2_with fail
  go_ret
  exact ⟨⟨x, c, rfl, HI.out, HO.out⟩, HX6.out⟩
end Go.Proofs.YtnhbjgmfbcedaaaDoor
namespace Go.Proofs.YtnhbjgmfbcedaaaDoor
open Go.RowKit
set_option linter.unusedSimpArgs false
set_option maxRecDepth 100000
theorem enters_fn {P : Program} {f : FuncId} {fn : Func} {c : Code} (hf : P.funcs[f]? = some fn) (hname : (fn.name == "runtime.NumGoroutine") = false) (hb : fn.body = some c) (args : Array Value) (w : World) : (callFunc f args).run P w = .ok (.enter f args) w := by
  have h1 : fn.name ≠ "runtime.NumGoroutine" := by simpa using hname
  simp [callFunc, hf, h1, hb, mark]
theorem IGo.trans {w0 w wr w' : World} {R B a a' most : Nat} {s : ByteArray} {v0 v v' : Value} {out out' : List UInt8} (h : IGo w0 w wr R B s a v0 v out most) (k : IGo w0 wr w' R B s a' v v' out' most) : IGo w0 w w' R B s a' v0 v' out' most := ⟨k.st, h.step.trans k.step⟩
namespace Inf
theorem good_fix : good fixF 288 := by
  refine ⟨⟨by decide, fun j _ => ?_⟩, .inr (.inr ?_)⟩
  · unfold fixF; split <;> (try split) <;> (try split) <;> omega
  · decide +kernel
theorem good_five : good fiveF 32 := ⟨⟨by decide, fun j _ => by unfold fiveF; omega⟩, .inr (.inr (by decide +kernel))⟩
theorem word_five : ∀ k, k < 32 → word fiveF 32 k = k := by decide +kernel
theorem nxt_five {L : List UInt8} {a : Nat} (h : a + 5 ≤ 8 * L.length) : nxt L fiveF 32 a = .ok (codeAt (Crc.num L) a 5, a + 5) := by
  have hl := codeAt_lt (Crc.num L) a 5
  exact nxt_hit good_five.2 ⟨by omega, by omega, h, hl, rfl, word_five _ hl⟩
theorem nxt_five_no {L : List UInt8} {a : Nat} (h : 8 * L.length < a + 5) : nxt L fiveF 32 a = .error 0 := by
  refine nxt_none fun n k hh => ?_
  have h1 := hh.2.2.2.2.1
  have h2 := hh.2.2.1
  have : (5 : Int) = n := h1
  omega
end Inf
def NPost (w0 w : World) (R B : Nat) (s : ByteArray) (v : Value) (out : List UInt8) (most : Nat) (E : Nat → Addr) (r : Except Nat (Nat × Nat)) (e : Ending) (w' : World) : Prop :=
  match r with
  | .ok (k, a') => e = .returned (.int .i64 (k : Int)) ∧ IGo w0 w w' R B s a' v v out most
  | .error c => e = thrown (E c) ∧ Ext w0 w'
section
variable {w0 w w' : World} {R B a' k c most : Nat} {s : ByteArray} {v : Value} {out : List UInt8} {E : Nat → Addr} {r : Except Nat (Nat × Nat)} {e : Ending}
theorem npost_ok {x : Value} (hr : r = .ok (k, a')) (hx : x = .int .i64 (k : Int)) (h : IGo w0 w w' R B s a' v v out most) : NPost w0 w R B s v out most E r (.returned x) w' := by subst hr hx; exact ⟨rfl, h⟩
theorem npost_error (hr : r = .error c) (h : Ext w0 w') : NPost w0 w R B s v out most E r (thrown (E c)) w' := by subst hr; exact ⟨rfl, h⟩
theorem NPost.yes (h : NPost w0 w R B s v out most E r e w') (hr : r = .ok (k, a')) : e = .returned (.int .i64 (k : Int)) ∧ IGo w0 w w' R B s a' v v out most := by subst hr; exact h
theorem NPost.no (h : NPost w0 w R B s v out most E r e w') (hr : r = .error c) : e = thrown (E c) ∧ Ext w0 w' := by subst hr; exact h
end
/-- a variable that a closure holds -/
def BoxB (b : Nat) (x : Value) (R B : Nat) (w : World) (v : Value) : Prop := Bk w b #[x] ∧ b ≠ R ∧ b ≠ B ∧ v.ownBlock ≠ some b
theorem BoxB.step {b R B : Nat} {x : Value} {w w' : World} {v v' : Value} (h : BoxB b x R B w v) (k : IStep w w' R B v v') : BoxB b x R B w' v' := by
  obtain ⟨h1, h2, h3, h4⟩ := h
  have hl := h1.lt
  refine ⟨h1.keeps k.keeps ?_, h2, h3, fun q => ?_⟩
  · rintro (q | q | q)
    · exact h2 q
    · exact h3 q
    · exact h4 q
  · rcases k.new b q with r | r
    · exact h4 r
    · omega
set_option linter.unusedSimpArgs false in
set_option maxHeartbeats 1000000 in
theorem five_any (b R B a most : Nat) (s : ByteArray) (v : Value) (out : List UInt8) (w0 w : World) (E : Nat → Addr) (hE : Errs w0 E) (hI : ISt w0 w R B s a v out most) (hD : BoxB b (.pointer (some ⟨R, 0, none⟩)) R B w v) :
    Calls Tryd.prog 81 #[.pointer (some ⟨b, 0, none⟩)] w fun e w' => NPost w0 w R B s v out most E (Inf.nxt s.data.toList Inf.fiveF 32 a) e w' := by
  have HE := Lib.hid hE
  have H0 := Lib.hid (IGo.start hI)
  have HD := Lib.hid hD
  have hle := hI.le
  obtain ⟨r, hr⟩ : ∃ r, Inf.nxt s.data.toList Inf.fiveF 32 a = r := ⟨_, rfl⟩
  rw [hr]
  have HR := Lib.hid hr
  obtain ⟨N, hN⟩ : ∃ N, Crc.num s.data.toList = N := ⟨_, rfl⟩
  have HN := Lib.hid hN
  clear hE hI hD hr hN
  go_enter Tryd.func81, Tryd.ntmps81
  go_wp2_with fail
  go_loopw [2, 3] (fun x y wr => ∃ i : Nat, i ≤ 5 ∧ y = .int .i64 i ∧ x = .int .i64 (codeAt N a i : Int) ∧ Hid (IGo w0 w wr R B s (a + i) v v out most) ∧ a + i ≤ 8 * s.size) (fun _ y _ => 5 - (intOf y).toNat)
  case atStart => exact ⟨0, by omega, rfl, rfl, H0, hle⟩
  case round =>
    clear H0
    obtain ⟨i, hi, rfl, rfl, H, hai⟩ := hrel
    have hcl := codeAt_lt N a i
    have h32 : 2 ^ i ≤ 2 ^ 5 := Nat.pow_le_pow_right (by decide) hi
    by_cases hlt : i < 5
    · have c0 := (HD.out.step H.out.step).1.cell 0
      obtain ⟨C, hC⟩ : ∃ C, codeAt N a i = C := ⟨_, rfl⟩
      have HC := Lib.hid hC
      rw [hC] at hcl ⊢
      have hC32 : C < 32 := by omega
      have wi : ∀ z, z = (i : Int) + 1 → IntKind.i64.wrap z = z := by rintro _ rfl; rw [IntKind.wrap_i64]; omega
      have hC2 : (C : Int) * 2 = ((2 * C : Nat) : Int) := by omega
      have wc : ∀ z, z = ((2 * C : Nat) : Int) → IntKind.i64.wrap z = z := by rintro _ rfl; rw [IntKind.wrap_i64]; omega
      have e10 : (i : Int) < 5 := by omega
      clear hC hcl h32
      go_wp2_with fail
      by_cases h1 : a + i + 1 ≤ 8 * s.size
      · have hg : Inf.get s.data.toList 1 (a + i) = .ok (N / 2 ^ (a + i) % 2, a + i + 1) := by
          unfold Inf.get
          rw [if_pos (by rw [list_size]; exact h1), HN.out]
        obtain ⟨y, hy⟩ : ∃ y, N / 2 ^ (a + i) % 2 = y := ⟨_, rfl⟩
        have hy2 : y < 2 := by omega
        rw [hy] at hg
        have HY := Lib.hid hy
        clear hy
        refine (gget_yes R B (a + i) 1 y (a + i + 1) most s v v out w0 w _ E HE.out H.out (by omega) hg).mono ?_
        rintro e w1 ⟨rfl, hG, hS⟩
        have H1 := Lib.hid hG
        have hor := or_bit C y (by omega) hy2
        have hcod : codeAt N a (i + 1) = 2 * C + y := by simp only [codeAt, HC.out, HY.out]
        have HCOD := Lib.hid hcod
        clear hG hS hg hcod H c0
        have hor2 : bits BinOp.or IntKind.i64 ((C : Int) * 2) (y : Int) = ((2 * C + y : Nat) : Int) := by rw [hC2]; exact hor
        have hor3 : bits BinOp.or IntKind.i64 (2 * (C : Int)) (y : Int) = ((2 * C + y : Nat) : Int) := by rw [show 2 * (C : Int) = ((2 * C : Nat) : Int) by omega]; exact hor
        go_wp2_with fail
        go_roundw
        case rel => exact ⟨i + 1, by omega, by go_num, by rw [HCOD.out]; exact val_int (by omega), by rw [← Nat.add_assoc]; exact H1, by omega⟩
        case measure => simp [intOf]; omega
      · have hg : Inf.get s.data.toList 1 (a + i) = .error 0 := by
          unfold Inf.get
          rw [if_neg (by rw [list_size]; exact h1)]
        have hrr : r = .error 0 := by rw [← HR.out]; exact Inf.nxt_five_no (by rw [list_size]; omega)
        refine (gget_no R B (a + i) 1 0 most s v v out w0 w _ E HE.out H.out (by omega) hg).mono ?_
        rintro e w9 ⟨rfl, h9⟩
        exact ⟨rfl, npost_error hrr h9⟩
    · obtain rfl : i = 5 := by omega
      have hrr : r = .ok (codeAt N a 5, a + 5) := by rw [← HR.out, ← HN.out]; exact Inf.nxt_five (by rw [list_size]; omega)
      have HRR := Lib.hid hrr
      obtain ⟨C, hC⟩ : ∃ C, codeAt N a 5 = C := ⟨_, rfl⟩
      rw [hC] at HRR ⊢
      clear hrr hC hcl h32
      go_wp2_with fail
      go_ret
      exact npost_ok HRR.out rfl H.out
theorem Dist.five (b R B most : Nat) (s : ByteArray) (w0 : World) (E : Nat → Addr) (hE : Errs w0 E) : Dist 81 #[.pointer (some ⟨b, 0, none⟩)] w0 R B s most E Inf.fiveF 32 (BoxB b (.pointer (some ⟨R, 0, none⟩)) R B) := by
  refine ⟨fun args w => enters_fn Tryd.func81 (by kernel_rfl) rfl args w, fun w w' v v' h k => h.step k, ?_, ?_⟩
  · intro w wr a v0 v out k a' hG hd hn
    refine (five_any b R B a most s v out w0 wr E hE hG.st hd).mono fun e w' h => ?_
    have h := h.yes hn
    exact ⟨h.1, hG.trans h.2, h.2.step⟩
  · intro w wr a v0 v out c hG hd hn
    refine (five_any b R B a most s v out w0 wr E hE hG.st hd).mono fun e w' h => ?_
    exact h.no hn
theorem far_any (b d T R B a most gen : Nat) (g : Nat → Int) (s : ByteArray) (v : Value) (out : List UInt8) (w0 w : World) (E : Nat → Addr) (hE : Errs w0 E) (hI : ISt w0 w R B s a v out most) (hD : BoxB b (.pointer (some ⟨R, 0, none⟩)) R B w v) (hD2 : BoxB d (.pointer (some ⟨T, 0, none⟩)) R B w v) (hT : Tr w T g gen R B v) :
    Calls Tryd.prog 83 #[.pointer (some ⟨b, 0, none⟩), .pointer (some ⟨d, 0, none⟩)] w fun e w' => NPost w0 w R B s v out most E (Inf.nxt s.data.toList g gen a) e w' := by
  have HE := Lib.hid hE
  have H0 := Lib.hid (IGo.start hI)
  have HT := Lib.hid hT
  have c0 := hD.1.cell 0
  have c1 := hD2.1.cell 0
  clear hE hI hD hD2 hT
  go_enter Tryd.func83, Tryd.ntmps83
  go_wp2_with fail
  cases hn : Inf.nxt s.data.toList g gen a with
  | error c =>
    refine (gnext_no R B T a c most gen g s v v out w0 w _ E HE.out H0.out HT.out hn).mono ?_
    rintro e w9 ⟨rfl, h9⟩
    exact ⟨rfl, npost_error hn h9⟩
  | ok q =>
    obtain ⟨k, a1⟩ := q
    refine (gnext_yes R B T a k a1 most gen g s v v out w0 w _ E HE.out H0.out HT.out hn).mono ?_
    rintro e w1 ⟨rfl, hG, hS⟩
    have HG := Lib.hid hG
    have HN := Lib.hid hn
    clear hG hS hn
    go_wp2_with fail
    go_ret
    exact npost_ok HN.out rfl HG.out
theorem Dist.far (b d T R B most gen : Nat) (g : Nat → Int) (s : ByteArray) (w0 : World) (E : Nat → Addr) (hE : Errs w0 E) :
    Dist 83 #[.pointer (some ⟨b, 0, none⟩), .pointer (some ⟨d, 0, none⟩)] w0 R B s most E g gen (fun w v => BoxB b (.pointer (some ⟨R, 0, none⟩)) R B w v ∧ BoxB d (.pointer (some ⟨T, 0, none⟩)) R B w v ∧ Tr w T g gen R B v) := by
  refine ⟨fun args w => enters_fn Tryd.func83 (by kernel_rfl) rfl args w, fun w w' v v' h k => ⟨h.1.step k, h.2.1.step k, h.2.2.step k⟩, ?_, ?_⟩
  · intro w wr a v0 v out k a' hG hd hn
    refine (far_any b d T R B a most gen g s v out w0 wr E hE hG.st hd.1 hd.2.1 hd.2.2).mono fun e w' h => ?_
    have h := h.yes hn
    exact ⟨h.1, hG.trans h.2, h.2.step⟩
  · intro w wr a v0 v out c hG hd hn
    refine (far_any b d T R B a most gen g s v out w0 wr E hE hG.st hd.1 hd.2.1 hd.2.2).mono fun e w' h => ?_
    exact h.no hn
end Go.Proofs.YtnhbjgmfbcedaaaDoor
namespace Go.Proofs.YtnhbjgmfbcedaaaDoor
open Go.RowKit
set_option linter.unusedSimpArgs false
theorem anyH_world {P : Program} {md : Region.Mode} {ops : Array Oper} {Q : Exit → Act → World → Prop} {S : World → Prop} {fuel : Nat} {listed : Array Bool} {a : Act} {W : World} (F : World → Prop) (h1 : F W) (h2 : ∀ wz, F wz → wpAnyH P md ops Q S fuel listed a wz) : wpAnyH P md ops Q S fuel listed a W := h2 W h1
end Go.Proofs.YtnhbjgmfbcedaaaDoor
