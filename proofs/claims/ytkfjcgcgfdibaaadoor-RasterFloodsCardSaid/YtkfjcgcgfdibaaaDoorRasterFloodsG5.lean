/-
  Pixels compared.
  A flood by a heap of places: what lies in memory.
  The world of a region that draws its order, under a name. No function of the program is named.
-/
import Derived.Test.YtkfjcgcgfdibaaaDoorRasterFloodsG4
import Derived.Laws.StructEq
import Derived.Test.YtkfjcgcgfdibaaaDoorRasterFloodsG1
import Derived.Deep.RegionHeld3
import Derived.RegionTactic
namespace Go.Proofs.YtkfjcgcgfdibaaaDoor
open Go.RowKit
set_option maxRecDepth 100000
def peq (p q : P4) : Bool := (p.r == q.r) && (p.g == q.g) && (p.b == q.b) && (p.a == q.a)
theorem peq_iff (p q : P4) : peq p q = true ↔ p = q := by
  obtain ⟨a, b, c, d⟩ := p
  obtain ⟨a', b', c', d'⟩ := q
  unfold peq
  simp [and_assoc]
set_option linter.unusedSimpArgs false in
theorem pix_equal (p q : P4) (w : World) : (Op.equalIn 10000 36 (.agg #[.int .u8 p.r, .int .u8 p.g, .int .u8 p.b, .int .u8 p.a]) (.agg #[.int .u8 q.r, .int .u8 q.g, .int .u8 q.b, .int .u8 q.a])).run Tryd.prog w = .ok (peq p q) w := by
  have h := run_equalIn_struct (P := Tryd.prog) w 9999 36 #[.int .u8 p.r, .int .u8 p.g, .int .u8 p.b, .int .u8 p.a] #[.int .u8 q.r, .int .u8 q.g, .int .u8 q.b, .int .u8 q.a] (by kernel_rfl) (by kernel_rfl)
  rw [h]
  have hm : (Tryd.prog.fieldsOf 36).toList.map (fun f => (decide (f.name = "_"), f.type, f.offset)) = [(false, 5, 0), (false, 5, 1), (false, 5, 2), (false, 5, 3)] := by kernel_rfl
  generalize (Tryd.prog.fieldsOf 36).toList = fs at hm
  have he := fun a b => run_equalIn_int (P := Tryd.prog) w 9998 5 .u8 .u8 a b Tryd.underlying5
  have he' : ∀ a b : Int, (Op.equalIn 9999 5 (.int .u8 a) (.int .u8 b)).run Tryd.prog w = .ok (a == b) w := he
  clear h he
  rcases fs with _ | ⟨f0, _ | ⟨f1, _ | ⟨f2, _ | ⟨f3, _ | ⟨f4, fs⟩⟩⟩⟩⟩
  · simp at hm
  · simp at hm
  · simp at hm
  · simp at hm
  · simp only [List.map_cons, List.map_nil, List.cons.injEq, Prod.mk.injEq, decide_eq_false_iff_not, and_true] at hm
    obtain ⟨⟨n0, t0, o0⟩, ⟨n1, t1, o1⟩, ⟨n2, t2, o2⟩, n3, t3, o3⟩ := hm
    have p5 : ∀ (v : Value) (vs : Array Value) (o : Nat), vs[o]? = some v → (part 5 vs o).run Tryd.prog w = .ok v w := fun v vs o hv => by
      unfold part
      simp [hv]
    have qq := fun (x0 x1 x2 x3 : Int) => And.intro (p5 (.int .u8 x0) #[.int .u8 x0, .int .u8 x1, .int .u8 x2, .int .u8 x3] 0 rfl) (And.intro (p5 (.int .u8 x1) #[.int .u8 x0, .int .u8 x1, .int .u8 x2, .int .u8 x3] 1 rfl) (And.intro (p5 (.int .u8 x2) #[.int .u8 x0, .int .u8 x1, .int .u8 x2, .int .u8 x3] 2 rfl) (p5 (.int .u8 x3) #[.int .u8 x0, .int .u8 x1, .int .u8 x2, .int .u8 x3] 3 rfl)))
    have a0 := fun x0 x1 x2 x3 => (qq x0 x1 x2 x3).1
    have a1 := fun x0 x1 x2 x3 => (qq x0 x1 x2 x3).2.1
    have a2 := fun x0 x1 x2 x3 => (qq x0 x1 x2 x3).2.2.1
    have a3 := fun x0 x1 x2 x3 => (qq x0 x1 x2 x3).2.2.2
    clear p5 qq
    unfold peq
    cases b0 : (p.r == q.r) <;> cases b1 : (p.g == q.g) <;> cases b2 : (p.b == q.b) <;> cases b3 : (p.a == q.a) <;>
      simp only [Op.eqFields, n0, n1, n2, n3, ne_eq, not_false_eq_true, if_true, if_false, t0, t1, t2, t3, o0, o1, o2, o3, Sem.run_bind, Sem.run_ite, Sem.run_pure, a0, a1, a2, a3, he', Result.andThen_ok, b0, b1, b2, b3, Bool.not_true, Bool.not_false, Bool.false_eq_true, Bool.and_true, Bool.and_false, Bool.and_self, Bool.false_and, Bool.true_and]
  · simp at hm
theorem pix_eql (p q : P4) (b : Bool) (hb : peq p q = b) (w : World) : (binOp .eql 36 (.agg #[.int .u8 p.r, .int .u8 p.g, .int .u8 p.b, .int .u8 p.a]) (.agg #[.int .u8 q.r, .int .u8 q.g, .int .u8 q.b, .int .u8 q.a])).run Tryd.prog w = .ok (.bool b) w := by
  rw [run_eql_struct, pix_equal, hb]; rfl
theorem pix_neq (p q : P4) (b : Bool) (hb : peq p q = b) (w : World) : (binOp .neq 36 (.agg #[.int .u8 p.r, .int .u8 p.g, .int .u8 p.b, .int .u8 p.a]) (.agg #[.int .u8 q.r, .int .u8 q.g, .int .u8 q.b, .int .u8 q.a])).run Tryd.prog w = .ok (.bool (!b)) w := by
  rw [run_neq_struct, pix_equal, hb]; rfl
def fldP (I : Nat → Bool) (c : P4) (px : Nat → P4) (k : Nat) : P4 := if I k then c else px k
theorem Cv.madeSet (w : World) (n k : Nat) (z v : Value) (t : TypeId) : Cv (w.alloc (.cells ((madeCells #[z] n).setIfInBounds k v) t)) w.heap.size n (fun i => if i = k then v else z) := by
  intro i hi
  rw [World.cell?_alloc_at _ _ _ _ rfl, World.frozen?_alloc_at _ _ _ _ rfl]
  refine ⟨?_, rfl⟩
  have hs : i < (madeCells #[z] n).size := by rw [size_madeCells]; simpa using hi
  have hs' : i < ((madeCells #[z] n).setIfInBounds k v).size := by rw [Array.size_setIfInBounds]; exact hs
  rw [Array.getElem?_eq_getElem hs', Array.getElem_setIfInBounds]
  by_cases e : k = i
  · rw [if_pos e]; exact congrArg some (if_pos e.symm).symm
  · rw [if_neg e]; refine Eq.trans ?_ (congrArg some (if_neg (fun q => e q.symm)).symm)
    simp [madeCells, Nat.mod_one]
  · exact hs
def fldN (I : Nat → Bool) (c : P4) (px : Nat → P4) (n k : Nat) : P4 := if k < n ∧ I k = true then c else px k
theorem fld_no {I : Nat → Bool} {c : P4} {px : Nat → P4} {i : Nat} (h : I i = false) (k : Nat) : fldN I c px (i + 1) k = fldN I c px i k := by
  unfold fldN
  by_cases e : k = i
  · subst e; rw [h]; simp
  · have : (k < i + 1) ↔ (k < i) := by omega
    simp only [this]
theorem fld_yes {I : Nat → Bool} {c : P4} {px : Nat → P4} {i : Nat} (h : I i = true) (k : Nat) : fldN I c px (i + 1) k = upd (fldN I c px i) i c k := by
  unfold fldN upd
  by_cases e : k = i
  · subst e; rw [h]; simp
  · have : (k < i + 1) ↔ (k < i) := by omega
    simp only [this, if_neg e]
theorem fld_all {I : Nat → Bool} {c : P4} {px : Nat → P4} {n k : Nat} (h : k < n) : fldP I c px k = fldN I c px n k := by
  unfold fldN fldP
  cases I k <;> simp [h]
structure FI (w0 w : World) (W H N : Nat) (ad : Addr) (cap ib : Nat) (c : P4) (I : Nat → Bool) : Prop where
  ext : Ext w0 w
  b : Bk w w0.heap.size #[.int .i64 (W : Int), .int .i64 (H : Int), .slice (some ad) N cap]
  c : Bk w (w0.heap.size + 1) #[.int .u8 c.r, .int .u8 c.g, .int .u8 c.b, .int .u8 c.a]
  r : Bk w (w0.heap.size + 1 + 1) #[.int .i64 0, .int .i64 0, .slice none 0 0]
  i : Cv w ib N (fun k => .bool (I k))
  ge : w0.heap.size + 1 + 1 < ib
  il : ib < w.heap.size
theorem FI.step {w0 w w' : World} {W H N cap ib : Nat} {ad : Addr} {c : P4} {I : Nat → Bool} (h : FI w0 w W H N ad cap ib c I) (hE : Ext w w') : FI w0 w' W H N ad cap ib c I :=
  ⟨h.ext.trans hE, h.b.ext hE, h.c.ext hE, h.r.ext hE, h.i.ext hE, h.ge, Nat.lt_of_lt_of_le h.il hE.size⟩
theorem FI.set {w0 w : World} {W H N cap ib : Nat} {ad : Addr} {c : P4} {I : Nat → Bool} (h : FI w0 w W H N ad cap ib c I) (k : Nat) (hk : k < N) : FI w0 (w.setCell ⟨ib, k, none⟩ (.bool true)) W H N ad cap ib c (Fl.setF I k) := by
  have hK : Keeps (fun j => j = ib) w (w.setCell ⟨ib, k, none⟩ (.bool true)) := (Keeps.refl (fun j => j = ib) w).setCell (.inl rfl) _
  have hg := h.ge
  refine ⟨Below.setCell h.ext (show w0.heap.size ≤ ib by omega) _, h.b.keeps hK (by omega), h.c.keeps hK (by omega), h.r.keeps hK (by omega), h.i.put k _ _ hk (fun j hj => ?_), h.ge, Nat.lt_of_lt_of_le h.il hK.size⟩
  unfold Fl.setF
  split <;> rfl
theorem FI.keeps {S : Nat → Prop} {w0 w w' : World} {W H N cap ib : Nat} {ad : Addr} {c : P4} {I : Nat → Bool} (h : FI w0 w W H N ad cap ib c I) (hk : Keeps S w w') (hS : ∀ j, j ≤ ib → ¬ S j) : FI w0 w' W H N ad cap ib c I := by
  have hg := h.ge
  exact ⟨Below.trans h.ext (hk.below h.ext.size (fun k hk' => hS k (by omega))), h.b.keeps hk (hS _ (by omega)), h.c.keeps hk (hS _ (by omega)), h.r.keeps hk (hS _ (by omega)), h.i.keeps hk (hS _ (Nat.le_refl _)), h.ge, Nat.lt_of_lt_of_le h.il hk.size⟩
theorem FI.at_ {w0 w : World} {W H N cap ib : Nat} {ad : Addr} {c : P4} {I : Nat → Bool} (h : FI w0 w W H N ad cap ib c I) (k : Nat) (hk : k < N) : w.cell? ⟨ib, k, none⟩ = some (.bool (I k)) ∧ w.frozen? ⟨ib, k, none⟩ = false := h.i k hk
theorem wrap_n (k : Nat) (h : k ≤ 70000) : IntKind.i64.wrap (k : Int) = (k : Int) ∧ wrap64 (k : Int) = (k : Int) := ⟨wrap_i (by omega) (by omega), wrap_6 (by omega) (by omega)⟩
end Go.Proofs.YtkfjcgcgfdibaaaDoor
namespace Go.Proofs.YtkfjcgcgfdibaaaDoor
open Go.RowKit
set_option maxRecDepth 100000
theorem pairinf : (Tryd.prog.info? 97).map (fun i => (i.zero, i.size, i.bytes)) = some (some (.agg #[.int .i64 0, .int .i64 0]), 2, 16) := by kernel_rfl
def stV : List (Int × Int) → List Value
  | [] => []
  | p :: l => .int .i64 p.1 :: .int .i64 p.2 :: stV l
theorem stV_length : ∀ l, (stV l).length = l.length * 2
  | [] => rfl
  | p :: l => by simp only [stV, List.length_cons, stV_length l]; omega
theorem stV_append : ∀ l l', stV (l ++ l') = stV l ++ stV l'
  | [], l' => rfl
  | p :: l, l' => by simp only [List.cons_append, stV, stV_append l l']
structure FL (w0 w : World) (W H N : Nat) (ad : Addr) (cap T Q g cc B : Nat) (c q0 : P4) (qx : Nat → P4) (v : Value) (st : List (Int × Int)) : Prop where
  fa : FAt w0 w (w0.heap.size + 1 + 1) T g (W : Int) (H : Int) N cc qx
  b : Bk w w0.heap.size #[.int .i64 (W : Int), .int .i64 (H : Int), .slice (some ad) N cap]
  c : Bk w (w0.heap.size + 1) #[.int .u8 c.r, .int .u8 c.g, .int .u8 c.b, .int .u8 c.a]
  q : Bk w Q #[.int .u8 q0.r, .int .u8 q0.g, .int .u8 q0.b, .int .u8 q0.a]
  row : w.ownsRow B 97 2 v st.length (stV st)
  w0B : w0.heap.size + 1 + 1 < B
  TB : T < B
  QB : Q < B
  gB : g < B
  n0 : w0.heap.size + 1 + 1 < g
  nQ : Q ≠ g
  Bw : B ≤ w.heap.size
theorem FL.ext {w0 w w' : World} {W H N cap T Q g cc B : Nat} {ad : Addr} {c q0 : P4} {qx : Nat → P4} {v : Value} {st : List (Int × Int)} (h : FL w0 w W H N ad cap T Q g cc B c q0 qx v st) (hE : Ext w w') : FL w0 w' W H N ad cap T Q g cc B c q0 qx v st :=
  ⟨h.fa.step hE, h.b.ext hE, h.c.ext hE, h.q.ext hE, ownsRow_kept h.row (S := fun _ => False) hE.keeps (fun _ _ q => q), h.w0B, h.TB, h.QB, h.gB, h.n0, h.nQ, Nat.le_trans h.Bw hE.size⟩
theorem FL.put {w0 w : World} {W H N cap T Q g cc B : Nat} {ad : Addr} {c q0 : P4} {qx : Nat → P4} {v : Value} {st : List (Int × Int)} (h : FL w0 w W H N ad cap T Q g cc B c q0 qx v st) (k : Nat) (p : P4) : FL w0 (set4 w g k p) W H N ad cap T Q g cc B c q0 (upd qx k p) v st := by
  have K := set4_keeps w g k p
  have h1 := h.n0
  have h2 := h.gB
  exact ⟨h.fa.put k p, h.b.keeps K (by omega), h.c.keeps K (by omega), h.q.keeps K h.nQ, ownsRow_kept h.row K (fun b hb e => by have := (h.row.lt b hb).1; omega), h.w0B, h.TB, h.QB, h.gB, h.n0, h.nQ, Nat.le_trans h.Bw K.size⟩
theorem FL.congr {w0 w : World} {W H N cap T Q g cc B : Nat} {ad : Addr} {c q0 : P4} {qx qy : Nat → P4} {v : Value} {st : List (Int × Int)} (h : FL w0 w W H N ad cap T Q g cc B c q0 qx v st) (hq : ∀ i, i < N → qy i = qx i) : FL w0 w W H N ad cap T Q g cc B c q0 qy v st :=
  ⟨h.fa.congr hq, h.b, h.c, h.q, h.row, h.w0B, h.TB, h.QB, h.gB, h.n0, h.nQ, h.Bw⟩
theorem FL.lit {w0 w : World} {W H N cap T Q g cc B : Nat} {ad : Addr} {c q0 : P4} {qx : Nat → P4} {v : Value} {st : List (Int × Int)} (h : FL w0 w W H N ad cap T Q g cc B c q0 qx v st) (h0 : 0 < st.length) : ∃ s sc, v = .slice (some ⟨s, 0, none⟩) st.length sc ∧ st.length ≤ sc := by
  rcases h.row.2 with ⟨_, hz⟩ | ⟨s, sc, cur, hv, _, _, hl, _⟩
  · omega
  · exact ⟨s, sc, hv, hl⟩
theorem FL.top {w0 w : World} {W H N cap T Q g cc B : Nat} {ad : Addr} {c q0 : P4} {qx : Nat → P4} {s sc n : Nat} {st : List (Int × Int)} {x y : Int} (h : FL w0 w W H N ad cap T Q g cc B c q0 qx (.slice (some ⟨s, 0, none⟩) n sc) (st ++ [(x, y)])) :
    w.cell? ⟨s, st.length * 2, none⟩ = some (.int .i64 x) ∧ w.cell? ⟨s, st.length * 2 + 1, none⟩ = some (.int .i64 y) := by
  have e : stV (st ++ [(x, y)]) = stV st ++ [.int .i64 x, .int .i64 y] := stV_append _ _
  have hr := h.row
  rw [e] at hr
  have hl := stV_length st
  rcases hr.2 with ⟨hv, _⟩ | ⟨g', cap', cur, hv, h1, h2, h3, h4, h5, h6⟩
  · cases hv
  · injection hv with hv hn hc
    injection hv with hv
    injection hv with hv
    subst hv hc hn
    have hll : (st ++ [(x, y)]).length = st.length + 1 := by simp
    have g0 : (stV st ++ [Value.int .i64 x, Value.int .i64 y])[st.length * 2]? = some (.int .i64 x) := by rw [List.getElem?_append_right (by omega), hl, Nat.sub_self]; rfl
    have g1 : (stV st ++ [Value.int .i64 x, Value.int .i64 y])[st.length * 2 + 1]? = some (.int .i64 y) := by rw [List.getElem?_append_right (by omega), hl, show st.length * 2 + 1 - st.length * 2 = 1 by omega]; rfl
    exact ⟨by rw [hr.cellAt (st.length * 2) (by omega)]; simp [g0], by rw [hr.cellAt (st.length * 2 + 1) (by omega)]; simp [g1]⟩
theorem FL.pop {w0 w : World} {W H N cap T Q g cc B : Nat} {ad : Addr} {c q0 : P4} {qx : Nat → P4} {s sc n : Nat} {st : List (Int × Int)} {x y : Int} (h : FL w0 w W H N ad cap T Q g cc B c q0 qx (.slice (some ⟨s, 0, none⟩) n sc) (st ++ [(x, y)])) :
    FL w0 w W H N ad cap T Q g cc B c q0 qx (.slice (some ⟨s, 0, none⟩) st.length sc) st := by
  refine ⟨h.fa, h.b, h.c, h.q, ⟨stV_length st, .inr ?_⟩, h.w0B, h.TB, h.QB, h.gB, h.n0, h.nQ, h.Bw⟩
  rcases h.row.2 with ⟨hv, _⟩ | ⟨g', cap', cur, hv, h1, h2, h3, h4, h5, h6⟩
  · cases hv
  · injection hv with hv hn hc
    injection hv with hv
    injection hv with hv
    subst hv hc
    simp only [List.length_append, List.length_cons, List.length_nil] at h3 h6
    refine ⟨s, _, cur, rfl, h1, h2, by omega, h4, h5, ?_⟩
    have e := congrArg (List.take (st.length * 2)) h6
    rw [List.take_take, Nat.min_eq_left (by omega), stV_append, List.take_append_of_le_length (by rw [stV_length]; exact Nat.le_refl _)] at e
    exact e.trans (List.take_of_length_le (by rw [stV_length]; exact Nat.le_refl _))
theorem FL.push {w0 w w2 : World} {W H N cap T Q g cc B : Nat} {ad : Addr} {c q0 : P4} {qx : Nat → P4} {v v' : Value} {st st' : List (Int × Int)} {o : Obj} (h : FL w0 w W H N ad cap T Q g cc B c q0 qx v st)
    (hg : (w.alloc o).grownBy w2 v.ownBlock) (hr : w2.ownsRow B 97 2 v' (st ++ st').length (stV (st ++ st'))) : FL w0 w2 W H N ad cap T Q g cc B c q0 qx v' (st ++ st') := by
  have h1 := h.ext (Ext.alloc (Ext.refl w) o)
  have K := Keeps.grown hg
  have hb : ∀ j, j < B → ¬ v.ownBlock = some j := fun j hj e => by have := (h.row.lt j e).1; omega
  have q1 := h.w0B
  have q2 := h.TB
  have q3 := h.QB
  have q4 := h.gB
  have q5 := h.n0
  refine ⟨⟨Below.trans h1.fa.ext (K.below h1.fa.ext.size (fun k hk => hb k (by omega))), h1.fa.res.keeps K (hb _ (by omega)), h1.fa.bk.keeps K (hb _ (by omega)), ?_, h.fa.nT, h.fa.nR, h.fa.gn⟩, h1.b.keeps K (hb _ (by omega)), h1.c.keeps K (hb _ (by omega)), h1.q.keeps K (hb _ (by omega)), hr, h.w0B, h.TB, h.QB, h.gB, h.n0, h.nQ, Nat.le_trans h1.Bw K.size⟩
  exact h1.fa.row.keeps K (hb _ (by omega))
theorem fld_set {F : Nat → Bool} {c : P4} {px : Nat → P4} (k i : Nat) : fldP (Fl.setF F k) c px i = upd (fldP F c px) k c i := by
  unfold fldP Fl.setF upd
  by_cases e : i = k
  · simp [e]
  · simp [e]
theorem four_len (x y : Int) : (Fl.four x y).length = 4 := rfl
theorem four_V (x y : Int) : stV (Fl.four x y) = [.int .i64 (x - 1), .int .i64 y, .int .i64 (x + 1), .int .i64 y, .int .i64 x, .int .i64 (y - 1), .int .i64 x, .int .i64 (y + 1)] := rfl
theorem Po.px4 {w : World} {g n : Nat} {px : Nat → P4} (h : Po w g n px) (k : Nat) (hk : k < n) : w.cell? ⟨g, k * 4, none⟩ = some (.int .u8 (px k).r) ∧ w.cell? ⟨g, k * 4 + 1, none⟩ = some (.int .u8 (px k).g) ∧ w.cell? ⟨g, k * 4 + 2, none⟩ = some (.int .u8 (px k).b) ∧ w.cell? ⟨g, k * 4 + 3, none⟩ = some (.int .u8 (px k).a) :=
  ⟨by rw [(h (k * 4) (by omega)).1, cellP_0], by rw [(h (k * 4 + 1) (by omega)).1, cellP_1], by rw [(h (k * 4 + 2) (by omega)).1, cellP_2], by rw [(h (k * 4 + 3) (by omega)).1, cellP_3]⟩
theorem wrap_m (k : Nat) (h : k ≤ 1000000) : IntKind.i64.wrap (k : Int) = (k : Int) ∧ wrap64 (k : Int) = (k : Int) := ⟨wrap_i (by omega) (by omega), wrap_6 (by omega) (by omega)⟩
theorem wrap_z (k : Int) (h : -1000 ≤ k ∧ k ≤ 1000000) : IntKind.i64.wrap k = k ∧ wrap64 k = k := ⟨wrap_i (by omega) (by omega), wrap_6 (by omega) (by omega)⟩
theorem flood_uniq {W H x0 y0 N : Nat} {px : Nat → P4} {c : P4} {F I : Nat → Bool} {ok : Nat → Nat → Prop} (hN : W * H = N) (hF : ∀ u v, u < W → v < H → (F (v * W + u) = true ↔ Fl.Rch W H ok x0 y0 u v)) (hI : ∀ u v, u < W → v < H → (I (v * W + u) = true ↔ Fl.Rch W H ok x0 y0 u v)) (i : Nat) (hi : i < N) : fldP F c px i = fldP I c px i := by
  obtain ⟨u, v, hu, hv, rfl⟩ := lin_sur (by rw [hN]; exact hi)
  have e : F (v * W + u) = I (v * W + u) := by
    have a := hF u v hu hv
    have b := hI u v hu hv
    cases h1 : F (v * W + u) <;> cases h2 : I (v * W + u)
    · rfl
    · exact absurd (a.2 (b.1 h2)) (by rw [h1]; simp)
    · exact absurd (b.2 (a.1 h1)) (by rw [h2]; simp)
    · rfl
  unfold fldP; rw [e]
theorem Rch_ok {W H u0 v0 u v : Nat} {ok : Nat → Nat → Prop} (h : Fl.Rch W H ok u0 v0 u v) (h0 : ok u0 v0) : ok u v := by
  cases h with
  | start => exact h0
  | step _ _ _ _ h => exact h
theorem wrapN (k : Nat) (h : k ≤ 1000000) : IntKind.i64.wrap (k : Int) = (k : Int) := (wrap_m k h).1
theorem wrapN64 (k : Nat) (h : k ≤ 1000000) : wrap64 (k : Int) = (k : Int) := (wrap_m k h).2
theorem wq {x : Int} (h : IntKind.i64.wrap x = x ∧ wrap64 x = x) : (∀ z, z = x → IntKind.i64.wrap z = z) ∧ (∀ z, z = x → wrap64 z = z) :=
  ⟨fun z e => by rw [e]; exact h.1, fun z e => by rw [e]; exact h.2⟩
end Go.Proofs.YtkfjcgcgfdibaaaDoor
namespace Go.Proofs.YtkfjcgcgfdibaaaDoor
open Go.RowKit
theorem anyH_world {P : Program} {md : Region.Mode} {ops : Array Oper} {Q : Exit → Act → World → Prop} {S : World → Prop} {fuel : Nat} {listed : Array Bool} {a : Act} {W : World} (F : World → Prop) (h1 : F W) (h2 : ∀ wz, F wz → wpAnyH P md ops Q S fuel listed a wz) : wpAnyH P md ops Q S fuel listed a W := h2 W h1
end Go.Proofs.YtkfjcgcgfdibaaaDoor
