/-
  Tokens of a text: what they mean, as they grow. No function of the program is named.
  The laws' rows of tokens: tokens, wide.
  match.Tokens.
  A writer of bits: Align.
  A writer of bits: Bytes, behind what is aligned.
  deflate.stored, deflate.Stored.
  Plain law of the Adler sum. No program in sight.
  (For a seat without CRC.) Contracts of sum.MoreAdler, sum.Adler: what they compute; the world is as it was.
  Four bytes of a number; the document's BigOf.
  deflate.Deflate, deflate.Zip.
  The document's bits: Byte, Low, High.
  The document's bits of a text, and the number of bits.
  The document's reader of packed texts: its memory; ok, fail, align, get.
-/
import Derived.Test.YtnhbjgmfbcedaaaDoorDeflateTwiceG1
import Derived.Test.YtnhbjgmfbcedaaaDoorDeflateTwiceG15
import Derived.Test.YtnhbjgmfbcedaaaDoorDeflateTwiceG3
import Derived.Laws.AppendOwnNone
import Derived.Test.YtnhbjgmfbcedaaaDoorDeflateTwiceG16
import Derived.Test.YtnhbjgmfbcedaaaDoorDeflateTwiceG2
import Derived.StillTailTactics
import Derived.Lib.AppendStr
import Derived.Deep.LoopGhost
import Derived.Deep.DeepCutAuto
import Derived.Deep.CutBlock
import Derived.Test.YtnhbjgmfbcedaaaDoorDeflateTwiceG4
import Derived.Test.YtnhbjgmfbcedaaaDoorDeflateTwiceG11
import Derived.Test.YtnhbjgmfbcedaaaDoorDeflateTwiceG13
import Derived.Outline
set_option linter.unusedSimpArgs false
set_option linter.unusedVariables false
set_option maxRecDepth 100000
namespace Go.Proofs.YtnhbjgmfbcedaaaDoor
open Go.RowKit
def tkl (l : List Tk) (i : Nat) : Tk := l.getD i ⟨0, 0, 0⟩
theorem tkl_old (l : List Tk) (t : Tk) {i : Nat} (h : i < l.length) : tkl (l ++ [t]) i = tkl l i := by
 unfold tkl; rw [List.getD, List.getD, List.getElem?_append_left h]
theorem tkl_new (l : List Tk) (t : Tk) : tkl (l ++ [t]) l.length = t := by
 unfold tkl; rw [List.getD, List.getElem?_append_right (Nat.le_refl _), Nat.sub_self]; rfl
theorem expL_congr {tk tk' : Nat → Tk} : ∀ {n : Nat}, (∀ i, i < n → tk i = tk' i) → expL tk n = expL tk' n := by
 intro n;induction n with
 | zero => intro _; rfl
 | succ n ih => intro h; simp only [expL]; rw [ih (fun i hi => h i (by omega)), h n (by omega)]
theorem expL_push {l : List Tk} {t : Tk} {out o : List UInt8} (h : expL (tkl l) l.length = .ok out) (hs : stepX t l.length out = .ok o) : expL (tkl (l ++ [t])) (l ++ [t]).length = .ok o := by
 have h1 : expL (tkl (l ++ [t])) l.length = .ok out := by rw [← h]; exact expL_congr (fun i hi => tkl_old l t hi)
 rw [List.length_append, List.length_singleton, expL_succ h1, tkl_new];exact hs
/-- the text's first a bytes -/
def pre (s : ByteArray) (a : Nat) : List UInt8 := s.data.toList.take a
theorem list_len (s : ByteArray) : s.data.toList.length = s.size := by simp
theorem pre_len (s : ByteArray) {a : Nat} (h : a ≤ s.size) : (pre s a).length = a := by unfold pre; rw [List.length_take, list_len]; omega
theorem pre_zero (s : ByteArray) : pre s 0 = [] := rfl
theorem pre_all (s : ByteArray) : pre s s.size = s.data.toList := by unfold pre; rw [← list_len]; exact List.take_length
theorem pre_succ (s : ByteArray) {a : Nat} (h : a < s.size) : pre s (a + 1) = pre s a ++ [s.data.toList.getD a 0] := by
 have h' : a < s.data.toList.length := by rw [list_len]; exact h
 unfold pre;rw [List.take_add_one, List.getElem?_eq_getElem h', List.getD, List.getElem?_eq_getElem h'];rfl
theorem pre_get (s : ByteArray) {a i : Nat} (h : i < a) : (pre s a).getD i 0 = s.data.toList.getD i 0 := by
 unfold pre; rw [List.getD, List.getD, List.getElem?_take_of_lt h]
theorem byt_inj {s : ByteArray} {i j : Nat} (h : byt s i = byt s j) : s.data.toList.getD i 0 = s.data.toList.getD j 0 := UInt8.toNat_inj.1 h
theorem copy_pre (s : ByteArray) {a d : Nat} (hd : 1 ≤ d) (hda : d ≤ a) : ∀ m, a + m ≤ s.size → (∀ j, j < m → byt s (a - d + j) = byt s (a + j)) → copyL (pre s a) d m = pre s (a + m) := by
 intro m;induction m with
 | zero => intro _ _; rfl
 | succ m ih =>
  intro hm hj;have e := ih (by omega) (fun j h => hj j (by omega));simp only [copyL];rw [e, pre_len s (by omega), pre_get s (by omega), show a + (m + 1) = a + m + 1 by omega, pre_succ s (by omega)];congr 2
  have := byt_inj (hj m (by omega));rw [← this]; congr 1; omega
/-- a row of tokens that grows -/
structure TL (s : ByteArray) (W T a : Nat) (l : List Tk) : Prop where
 means : expL (tkl l) l.length = .ok (pre s a)
 le : a ≤ s.size
 few : l.length ≤ a
 win : ∀ t ∈ l, t.d ≤ (W : Int)
 ok : ∀ t ∈ l, t.Ok
 greed : s.size ≤ T → ∀ g, Mt.Greed (byt s) s.size W a g → Mt.Greed (byt s) s.size W 0 (l.length + g)
theorem TL.nil (s : ByteArray) (W T : Nat) : TL s W T 0 [] := ⟨by rw [pre_zero]; rfl, Nat.zero_le _, Nat.le_refl _, by simp, by simp, fun _ g h => by simpa using h⟩
theorem TL.lit {s : ByteArray} {W T a : Nat} {l : List Tk} (h : TL s W T a l) (ha : a < s.size) (hs : s.size ≤ 300000) (hL : s.size ≤ T → ∃ d, Mt.Long (byt s) s.size W a 0 d) : TL s W T (a + 1) (l ++ [⟨s.data.toList.getD a 0, 0, 0⟩]) := by
 refine ⟨?_, by omega, by rw [List.length_append, List.length_singleton]; have := h.few; omega, ?_, ?_, ?_⟩
 ·refine expL_push h.means ?_;rw [pre_succ s ha];exact stepX_lit ⟨rfl, rfl⟩ (by rw [pre_len s h.le]; omega)
 ·intro t ht;rcases List.mem_append.1 ht with ht | ht
  ·exact h.win t ht
  ·rw [List.mem_singleton.1 ht]; show (0 : Int) ≤ W; omega
 ·intro t ht;rcases List.mem_append.1 ht with ht | ht
  ·exact h.ok t ht
  ·rw [List.mem_singleton.1 ht]; exact ⟨⟨(by show (-9223372036854775808 : Int) ≤ 0; decide), (by show (0 : Int) ≤ 9223372036854775807; decide)⟩, ⟨(by show (-9223372036854775808 : Int) ≤ 0; decide), (by show (0 : Int) ≤ 9223372036854775807; decide)⟩⟩
 ·intro hT g hg;obtain ⟨d, hd⟩ := hL hT;have := h.greed hT (g + 1) (.lit ha hd hg);rw [List.length_append, List.length_singleton, show l.length + 1 + g = l.length + (g + 1) by omega];exact this
theorem TL.mat {s : ByteArray} {W T a m d : Nat} {l : List Tk} (h : TL s W T a l) (hM : Mt.Mat (byt s) s.size W a m d) (hs : s.size ≤ 300000) (hW : W ≤ 32768) (hL : s.size ≤ T → Mt.Long (byt s) s.size W a m d) : TL s W T (a + m) (l ++ [⟨0, m, d⟩]) := by
 obtain ⟨h1, h2, h3, h4, h5, h6, h7⟩ := hM;refine ⟨?_, h3, by rw [List.length_append, List.length_singleton]; have := h.few; omega, ?_, ?_, ?_⟩
 ·refine expL_push h.means ?_;rw [← copy_pre s h4 h6 m h3 h7];have hb : ¬ badP ⟨0, (m : Int), (d : Int)⟩ (pre s a).length := by
   rw [pre_len s h.le];rintro (q | q | q | q | q | q)
   ·exact q rfl
   ·have : (m : Int) < 3 := q; omega
   ·have : (258 : Int) < m := q; omega
   ·have : (d : Int) < 1 := q; omega
   ·have : (32768 : Int) < d := q; omega
   ·have : (a : Int) < d := q; omega
  exact stepX_copy (fun q => by have : (m : Int) = 0 := q.1; omega) hb rfl rfl (by rw [pre_len s h.le]; omega)
 ·intro t ht;rcases List.mem_append.1 ht with ht | ht
  ·exact h.win t ht
  ·rw [List.mem_singleton.1 ht]; show (d : Int) ≤ W; omega
 ·intro t ht;rcases List.mem_append.1 ht with ht | ht
  ·exact h.ok t ht
  ·rw [List.mem_singleton.1 ht]; exact ⟨⟨by show (-9223372036854775808 : Int) ≤ m; omega, by show (m : Int) ≤ 9223372036854775807; omega⟩, ⟨by show (-9223372036854775808 : Int) ≤ d; omega, by show (d : Int) ≤ 9223372036854775807; omega⟩⟩
 ·intro hT g hg;have := h.greed hT (g + 1) (.mat (by omega) (hL hT) hg);rw [List.length_append, List.length_singleton, show l.length + 1 + g = l.length + (g + 1) by omega];exact this
end Go.Proofs.YtnhbjgmfbcedaaaDoor
namespace Go.Proofs.YtnhbjgmfbcedaaaDoor
open Go.RowKit
/-- the cells of tokens, one behind the other -/
def cellT (tk : Nat → Tk) (j : Nat) : Value := if j % 3 = 0 then .int .u8 ((tk (j / 3)).b.toNat : Int) else if j % 3 = 1 then .int .i64 (tk (j / 3)).l else .int .i64 (tk (j / 3)).d
def tkV (n : Nat) (tk : Nat → Tk) : List Value := (List.range (n * 3)).map (cellT tk)
theorem tkV_length (n : Nat) (tk : Nat → Tk) : (tkV n tk).length = n * 3 := by simp [tkV]
theorem tkV_get (n : Nat) (tk : Nat → Tk) (j : Nat) (h : j < n * 3) : (tkV n tk)[j]? = some (cellT tk j) := by simp [tkV, h]
theorem cellT_0 (tk : Nat → Tk) (i : Nat) : cellT tk (i * 3) = .int .u8 ((tk i).b.toNat : Int) := by
 unfold cellT; rw [if_pos (by omega), show i * 3 / 3 = i by omega]
theorem cellT_1 (tk : Nat → Tk) (i : Nat) : cellT tk (i * 3 + 1) = .int .i64 (tk i).l := by
 unfold cellT; rw [if_neg (by omega), if_pos (by omega), show (i * 3 + 1) / 3 = i by omega]
theorem cellT_2 (tk : Nat → Tk) (i : Nat) : cellT tk (i * 3 + 2) = .int .i64 (tk i).d := by
 unfold cellT; rw [if_neg (by omega), if_neg (by omega), show (i * 3 + 2) / 3 = i by omega]
theorem add_add3 (a : Addr) (i c : Nat) (hc : c ≠ 0) : a.add (i * 3 + c) = ⟨(a.add (i * 3)).block, (a.add (i * 3)).off + c, none⟩ := by
 unfold Addr.add;rw [if_neg (by omega)];split
 ·rename_i h;have : i = 0 := by omega
  subst this; simp
 ·simp [Nat.add_assoc]
theorem Toks.cells {w : World} {a : Addr} {n : Nat} {tk : Nat → Tk} (h : Toks w (some a) n tk) (j : Nat) (u : Value) (hj : (tkV n tk)[j]? = some u) : w.cell? (a.add j) = some u := by
 have hl : j < n * 3 := by
  rcases Nat.lt_or_ge j (n * 3) with q | q
  ·exact q
  ·rw [List.getElem?_eq_none (by rw [tkV_length]; exact q)] at hj; cases hj
 rw [tkV_get _ _ _ hl] at hj;injection hj with hj;subst hj;obtain ⟨c0, c1, c2, _⟩ := h.2 a rfl (j / 3) (by omega);obtain ⟨i, c, rfl, hc⟩ : ∃ i c, j = i * 3 + c ∧ c < 3 := ⟨j / 3, j % 3, by omega, by omega⟩;rw [show (i * 3 + c) / 3 = i by omega] at c0 c1 c2;match c, hc with
 | 0, _ => rw [Nat.add_zero, cellT_0]; exact c0
 | 1, _ => rw [cellT_1, add_add3 _ _ _ (by decide)]; exact c1
 | 2, _ => rw [cellT_2, add_add3 _ _ _ (by decide)]; exact c2
theorem Toks.of_own {w : World} {base : Nat} {v : Value} {n : Nat} {tk : Nat → Tk} (h : w.ownsRow base 84 3 v n (tkV n tk)) (hb : ∀ i, i < n → (tk i).Ok) :
  ∃ x c, v = .slice x n c ∧ Toks w x n tk := by
 rcases ownsRow_slice h with ⟨rfl, h0⟩ | ⟨g, cap, rfl⟩
 ·subst h0; exact ⟨none, 0, rfl, fun _ => rfl, fun a h => by cases h⟩
 ·refine ⟨some ⟨g, 0, none⟩, cap, rfl, (fun h => by cases h), fun a ha i hi => ?_⟩;injection ha with ha; subst ha;rw [add_plain];refine ⟨?_, ?_, ?_, hb i hi⟩
  ·rw [h.cellAt _ (by omega), tkV_get _ _ _ (by omega), cellT_0]
  ·show w.cell? ⟨g, i * 3 + 1, none⟩ = _; rw [h.cellAt _ (by omega), tkV_get _ _ _ (by omega), cellT_1]
  ·show w.cell? ⟨g, i * 3 + 2, none⟩ = _; rw [h.cellAt _ (by omega), tkV_get _ _ _ (by omega), cellT_2]
theorem tokinf : (Tryd.prog.info? 84).map (fun i => (i.zero, i.size, i.bytes)) = some (some (.agg #[.int .u8 0, .int .i64 0, .int .i64 0]), 3, 24) := by kernel_rfl
end Go.Proofs.YtnhbjgmfbcedaaaDoor
namespace Go.Proofs.YtnhbjgmfbcedaaaDoor
open Go.RowKit
theorem tkV_push (l : List Tk) (t : Tk) : tkV (l ++ [t]).length (tkl (l ++ [t])) = tkV l.length (tkl l) ++ [.int .u8 (t.b.toNat : Int), .int .i64 t.l, .int .i64 t.d] := by
 have e : (l ++ [t]).length * 3 = l.length * 3 + 1 + 1 + 1 := by rw [List.length_append, List.length_singleton]; omega
 have h0 : (List.range (l.length * 3)).map (cellT (tkl (l ++ [t]))) = (List.range (l.length * 3)).map (cellT (tkl l)) := by
  apply List.map_congr_left;intro j hj;have hj := List.mem_range.1 hj;unfold cellT;rw [tkl_old l t (by omega)]
 unfold tkV;rw [e, List.range_succ, List.range_succ, List.range_succ, List.map_append, List.map_append, List.map_append, h0];simp only [List.map_cons, List.map_nil, List.append_assoc, List.cons_append, List.nil_append];rw [cellT_0, cellT_1, cellT_2, tkl_new]
theorem row_sl {w : World} {base : Nat} {e : TypeId} {size n : Nat} {v : Value} {xs : List Value} (h : w.ownsRow base e size v n xs) : ∃ x c, v = .slice x n c := by
 rcases ownsRow_slice h with ⟨rfl, rfl⟩ | ⟨g, c, rfl⟩
 ·exact ⟨none, 0, rfl⟩
 ·exact ⟨some ⟨g, 0, none⟩, c, rfl⟩
theorem owns_b {w : World} {b b' : Nat} {e : TypeId} {size : Nat} {v : Value} {n : Nat} {xs : List Value} (h : w.ownsRow b e size v n xs) (hb : b' ≤ b) : w.ownsRow b' e size v n xs := by
 obtain ⟨h1, h2⟩ := h;refine ⟨h1, ?_⟩;rcases h2 with h2 | ⟨g, cap, cur, hv, hg, r⟩
 ·exact .inl h2
 ·exact .inr ⟨g, cap, cur, hv, by omega, r⟩
structure TS (w0 w : World) (base B mp ab : Nat) (s : ByteArray) (W T q : Nat) (v : Value) (l : List Tk) : Prop where
 ext : Ext w0 w
 st : FSt w B mp ab s (W : Int) (T : Int) q
 row : w.ownsRow base 84 3 v l.length (tkV l.length (tkl l))
 o2 : w0.heap.size ≤ mp
 o3 : w0.heap.size ≤ ab
 lt : B < base ∧ mp < base ∧ ab < base
 bw : base ≤ w.heap.size
 b0 : w0.heap.size ≤ base
theorem TS.step {w0 w w' : World} {base B mp ab W T q : Nat} {s : ByteArray} {v : Value} {l : List Tk} (h : TS w0 w base B mp ab s W T q v l) (hE : Ext w w') : TS w0 w' base B mp ab s W T q v l :=
 ⟨h.ext.trans hE, h.st.ext hE, ownsRow_kept h.row (hE.keeps (S := fun _ => False)) (fun _ _ q => q), h.o2, h.o3, h.lt, Nat.le_trans h.bw hE.size, h.b0⟩
theorem TS.put {w0 w w' : World} {base B mp ab W T q q' : Nat} {s : ByteArray} {v : Value} {l : List Tk} (h : TS w0 w base B mp ab s W T q v l) (hs : FSt w' B mp ab s (W : Int) (T : Int) q') (hk : Keeps (fun k => k = mp ∨ k = ab) w w') : TS w0 w' base B mp ab s W T q' v l :=
 ⟨Below.trans h.ext (hk.below h.ext.size (fun k hk' e => by rcases e with e | e; (have := h.o2; omega); have := h.o3; omega)), hs, ownsRow_kept h.row hk (fun k hk' e => by have := (h.row.lt k hk').1; have := h.lt; omega), h.o2, h.o3, h.lt, Nat.le_trans h.bw hk.size, h.b0⟩
theorem TS.grow {w0 w w' : World} {base B mp ab W T q : Nat} {s : ByteArray} {v v' : Value} {l : List Tk} {t : Tk} (h : TS w0 w base B mp ab s W T q v l) (hk : Keeps (fun k => v.ownBlock = some k) w w') (ho : w'.ownsRow base 84 3 v' (l ++ [t]).length (tkV (l ++ [t]).length (tkl (l ++ [t])))) : TS w0 w' base B mp ab s W T q v' (l ++ [t]) := by
 have nb : ∀ k, k < base → ¬ v.ownBlock = some k := fun k hk' e => by have := (h.row.lt k e).1; omega
 exact ⟨Below.trans h.ext (hk.below h.ext.size (fun k hk' => nb k (Nat.lt_of_lt_of_le hk' h.b0))), h.st.keeps hk (nb _ h.lt.1) (nb _ h.lt.2.1) (nb _ h.lt.2.2), ho, h.o2, h.o3, h.lt, Nat.le_trans h.bw hk.size, h.b0⟩
def triesOf (s : ByteArray) : Nat := if 3000 < s.size then 64 else s.size
def tokAt (s : ByteArray) (a m d : Nat) : Tk := if m = 0 then ⟨s.data.toList.getD a 0, 0, 0⟩ else ⟨0, m, d⟩
theorem TL.more {s : ByteArray} {W T a m d : Nat} {l : List Tk} (h : TL s W T a l) (ha : a < s.size) (hs : s.size ≤ 300000) (hW : W ≤ 32768) (hG : Mt.Good (byt s) s.size W a m d) (hL : s.size ≤ T → Mt.Long (byt s) s.size W a m d) : TL s W T (a + (if m = 0 then 1 else m)) (l ++ [tokAt s a m d]) := by
 unfold tokAt;by_cases hm : m = 0
 ·subst hm;rw [if_pos rfl, if_pos rfl];exact h.lit ha hs (fun hT => ⟨d, hL hT⟩)
 ·rw [if_neg hm, if_neg hm];exact h.mat (hG.one hm) hs hW hL
set_option linter.unusedSimpArgs false in
set_option maxHeartbeats 4000000 in
theorem tokens_good (s : ByteArray) (W : Nat) (w : World) (hs : s.size ≤ 300000) (h1 : 1 ≤ W) (h2 : W ≤ 32768) :
  Calls Tryd.prog 31 #[.string s, .int .i64 (W : Int)] w fun e w' => ∃ (l : List Tk) (v : Value), e = .returned (.tuple #[v, .nilIface]) ∧ w'.ownsRow w.heap.size 84 3 v l.length (tkV l.length (tkl l)) ∧ TL s W (triesOf s) s.size l ∧ Ext w w' := by
 obtain ⟨i0, hi0, hz0, hz1, hz2⟩ := info_parts tokinf;have hb : badB s (W : Int) = false := by unfold badB; exact decide_eq_false (by omega)
 have HB := Lib.hid (fun wz => mbad_any s (W : Int) wz (by unfold maxLen; omega));rw [hb] at HB;clear hb;obtain ⟨T, hT⟩ : ∃ T, triesOf s = T := ⟨_, rfl⟩;have hTl : T ≤ 300000 := by rw [← hT]; unfold triesOf; split <;> omega
 rw [hT];have HT := Lib.hid hT;clear hT;go_enter Tryd.func31, Tryd.ntmps31
 go_wp2_with fail;refine (HB.out _).mono ?_;rintro e w9 ⟨rfl, rfl⟩;go_upto_if 21 with fail
 go_cut [6] (fun s6 wx => s6 = .int .i64 (T : Int) ∧ w9 = wx)
 case first =>
  by_cases q : 3000 < s.size
  ·have t1 : decide ((3000 : Int) < (s.size : Int)) = true := decide_eq_true (by omega);have hTT : T = 64 := by rw [← HT.out]; unfold triesOf; rw [if_pos q]
   go_wp2_with fail;go_meet
   exact ⟨by rw [hTT]; rfl, rfl⟩
  ·have t1 : decide ((3000 : Int) < (s.size : Int)) = false := decide_eq_false (by omega);have hTT : T = s.size := by rw [← HT.out]; unfold triesOf; rw [if_neg q]
   go_wp2_with fail;go_meet
   exact ⟨by rw [hTT], rfl⟩
 case rest =>
  obtain ⟨rfl, rfl⟩ := hcut;go_wp2_with fail;refine (newFinder_any s (W : Int) (T : Int) _ (by omega)).mono ?_;rintro e w1 ⟨B, mp, ab, rfl, hF, hX, q1, q2, q3⟩;have hTS : TS w9 w1 w1.heap.size B mp ab s W T 0 (.slice none 0 0) [] := ⟨hX, hF, World.ownsRow_nil _ _ _ _, q2, q3, ⟨hF.bk.lt, hF.mm.lt, hF.al⟩, Nat.le_refl _, hX.size⟩;have HS := Lib.hid hTS;obtain ⟨base, hbs⟩ : ∃ z, w1.heap.size = z := ⟨_, rfl⟩;rw [hbs] at HS;clear hF hX q1 q2 q3 hTS hbs;go_wp2_with fail;go_loopw [8, 9] (fun v k wr => ∃ (a : Nat) (l : List Tk), k = .int .i64 (a : Int) ∧ Hid (TL s W T a l) ∧ Hid (TS w9 wr base B mp ab s W T (min a (s.size - 2)) v l)) (fun _ k _ => s.size - (intOf k).toNat)
  case atStart => exact ⟨0, [], rfl, Lib.hid (TL.nil _ _ _), by rw [Nat.zero_min]; exact HS⟩
  case round =>
   clear HS;obtain ⟨a, l, rfl, HL, HS⟩ := hrel;have hal := HL.out.le;have hlf := HL.out.few;obtain ⟨xo, co, rfl⟩ := row_sl HS.out.row;by_cases hlt : a < s.size
   ·have HLG : Hid (∀ wz, Ext wr wz → Calls Tryd.prog 70 #[.pointer (some ⟨B, 0, none⟩), .int .i64 (a : Int)] wz fun e w' => ∃ m d : Nat, e = .returned (.tuple #[.int .i64 (m : Int), .int .i64 (d : Int)]) ∧ Mt.Good (byt s) s.size W a m d ∧ (s.size ≤ T → Mt.Long (byt s) s.size W a m d) ∧ Ext wz w') := Lib.hid (fun wz hz => by
     by_cases h3 : a + 3 ≤ s.size
     ·have hq := (HS.out.st.ext hz);rw [show min a (s.size - 2) = a by omega] at hq;exact longest_yes B mp ab a W T s wz hq h3 (by omega) (by omega) (by omega)
     ·refine (longest_no B mp ab a _ s _ _ wz (HS.out.st.ext hz) (by omega) (by omega) (by omega)).mono ?_;rintro e w5 ⟨rfl, rfl⟩;exact ⟨0, 0, rfl, Mt.Good.edge _ _ _ _, fun _ => Mt.Long.edge _ _ _ _ (by omega), Ext.refl _⟩)
    go_wp2_with fail;refine (HLG.out _ (Ext.refl _)).mono ?_;rintro e w3 ⟨m, d, rfl, hg, hl, hx⟩;have HG := Lib.hid (And.intro hg hl);have HS3 := Lib.hid (HS.out.step hx);have hml : m ≤ 258 := by rcases Nat.eq_zero_or_pos m with q | q; (omega); exact (hg.one (by omega)).most
    have hdl : d ≤ 32768 := by rcases Nat.eq_zero_or_pos m with q | q; (have := hg.zero q; omega); have := (hg.one (by omega)).win; omega
    have hm3 : m ≠ 0 → 3 ≤ m := fun q => (hg.one q).three;have HN := Lib.hid (HL.out.more hlt (by omega) h2 hg hl);clear hl hx hg HS HLG;obtain ⟨y, hy⟩ : ∃ z, (s[a]'hlt).toNat = z := ⟨_, rfl⟩;have HBy : Hid (byt s a = y) := Lib.hid ((byt_at s a hlt).trans hy);have hyI : (((s[a]'hlt).toNat : Nat) : Int) = (y : Int) := by rw [hy]
    have hyl : y < 256 := by rw [← hy]; exact UInt8.toNat_lt _
    clear hy;have HTK : Hid (tokAt s a m d = if m = 0 then ⟨s.data.toList.getD a 0, 0, 0⟩ else ⟨0, m, d⟩) := Lib.hid rfl;obtain ⟨t, ht⟩ : ∃ t, tokAt s a m d = t := ⟨_, rfl⟩;rw [ht] at HTK HN;clear ht;obtain ⟨M, hM⟩ : ∃ M, (if m = 0 then 1 else m) = M := ⟨_, rfl⟩;rw [hM] at HN;have HM := Lib.hid hM;clear hM;go_upto_if 41 with fail
    go_cut [12] (fun s12 wx => s12 = .pointer (some ⟨w3.heap.size, 0, none⟩) ∧ Hid (Ext w3 wx) ∧ Hid (Bk wx w3.heap.size #[.int .u8 (t.b.toNat : Int), .int .i64 t.l, .int .i64 t.d]))
    case first =>
     by_cases hm : m = 0
     ·subst hm;have t1 : decide ((3 : Int) ≤ ((0 : Nat) : Int)) = false := by decide
      have hlit : ¬ (3 : Int) ≤ 0 := by decide
      rw [if_pos rfl] at HTK;have hyb : ((s.data.toList.getD a 0).toNat : Int) = (y : Int) := by have := HBy.out; unfold byt at this; omega
      go_wp2_with fail;go_meet
      refine ⟨rfl, Lib.hid ((Ext.refl _).alloc _), Lib.hid ?_⟩;rw [HTK.out];show Bk _ _ #[.int .u8 ((s.data.toList.getD a 0).toNat : Int), .int .i64 0, .int .i64 0];rw [hyb];exact Bk.at rfl
     ·have h3m := hm3 hm;have t1 : decide ((3 : Int) ≤ (m : Int)) = true := decide_eq_true (by omega);rw [if_neg hm] at HTK;go_wp2_with fail;go_meet
      refine ⟨rfl, Lib.hid ((Ext.refl _).alloc _), Lib.hid ?_⟩;rw [HTK.out];exact Bk.at rfl
    case rest =>
     obtain ⟨rfl, HX4, HB4⟩ := hcut;have HS4 := Lib.hid (HS3.out.step HX4.out);have hTl2 : t.l = (m : Int) := by rw [HTK.out]; split; (rename_i q; subst q; rfl); rfl
     have hMd : (m = 0 ∧ M = 1) ∨ (3 ≤ m ∧ M = m) := by have := HM.out; by_cases q : m = 0; (rw [if_pos q] at this; exact .inl ⟨q, this.symm⟩); (rw [if_neg q] at this; exact .inr ⟨hm3 q, this.symm⟩)
     rw [hTl2] at HB4;obtain ⟨tb, htb⟩ : ∃ z : Nat, t.b.toNat = z := ⟨_, rfl⟩;obtain ⟨td, htd⟩ : ∃ z : Int, t.d = z := ⟨_, rfl⟩;obtain ⟨tB, htB⟩ : ∃ z, w3.heap.size = z := ⟨_, rfl⟩;have HTB : Hid (∀ k, (Value.slice xo l.length co).ownBlock = some k → k < w3.heap.size) := Lib.hid (fun k e => (HS3.out.row.lt k e).2);rw [htb, htd, htB] at HB4;rw [htB] at HTB ⊢;have HTT := Lib.hid (And.intro htb (And.intro htd hTl2));clear htb htd htB hTl2 HX4 HS3 HTK HG;have k0 := HB4.out.cell 0;have k1 := HB4.out.cell 1;have k2 := HB4.out.cell 2;have hzb := HS4.out.bw;obtain ⟨n0, hn0⟩ : ∃ n, l.length = n := ⟨_, rfl⟩;have hn0l : n0 ≤ 300000 := by omega
     have HNL := Lib.hid hn0;have HRow := Lib.hid HS4.out.row;rw [hn0] at HRow HS4 HTB ⊢;go_wp2_with (at_builtin; refine wpList_append_own_at _ rfl _ _ 32 rfl base 84 i0 _ 3 24 Tryd.underlying32 hi0 hz0 hz1 hz2 rfl (by decide) _ _ _ rfl (HRow.out.alloc _) ⟨wc.heap.size, 0, none⟩ 1 1 [.int .u8 (tb : Int), .int .i64 (m : Int), .int .i64 td] rfl rfl ?c1 ?c2 ?c3 ?c4 ?c5 ?_)
     case c1 =>
      intro j u hu;rw [add_plain];exact (Bk.at (w := wc) rfl).cell j |>.trans (by simpa using hu)
     case c2 => intro u hu; simp at hu; rcases hu with hu | hu | hu <;> (subst hu; rfl)
     case c3 => unfold maxLen; omega
     case c4 => omega
     case c5 => rw [World.size_alloc]; omega
     intro v7 w7 hown hgrow _ hat;have K7 := (Keeps.alloc (Ext.keeps (S := fun i => (Value.slice xo n0 co).ownBlock = some i) (Ext.refl wc)) (.cells #[.int .u8 (tb : Int), .int .i64 (m : Int), .int .i64 td] 84)).trans (Keeps.grown hgrow) (fun _ _ q => q);have O7 : w7.ownsRow base 84 3 v7 (l ++ [t]).length (tkV (l ++ [t]).length (tkl (l ++ [t]))) := by
      rw [tkV_push, List.length_append, List.length_singleton, HNL.out, HTT.out.1, HTT.out.2.1, HTT.out.2.2];exact hown
     have HB7 := Lib.hid (HB4.out.keeps K7 (fun e => by have := HTB.out _ e; omega));have HS7 := Lib.hid (TS.grow (t := t) HS4.out K7 O7);clear hown hgrow hat K7 O7 HB4 HS4 HRow k0 k1 k2;have k1 := HB7.out.cell 1;have hmx : (if (1 : Int) < (m : Int) then (m : Int) else 1) = (M : Int) := by rcases hMd with q | q; (rw [if_neg (by omega)]; omega); (rw [if_pos (by omega)]; omega)
     have haM := HN.out.le;go_wp2_with fail;clear hmx k1;go_loopw [9, 52] (fun k i wr => ∃ j A : Nat, A = a + j ∧ k = .int .i64 (A : Int) ∧ i = .int .i64 (j : Int) ∧ j ≤ M ∧ Hid (TS w9 wr base B mp ab s W T (min A (s.size - 2)) v7 (l ++ [t]))) (fun _ i _ => M - (intOf i).toNat)
     case atStart => exact ⟨0, a, rfl, rfl, rfl, by omega, HS7⟩
     case round =>
      clear HS7;obtain ⟨j, A, hA, rfl, rfl, hjM, HS⟩ := hrel;by_cases hj : j < M
      ·have hAs : A < s.size := by omega
       have hA1 : A + 1 = a + (j + 1) := by omega
       have HA1 := Lib.hid hA1;clear hA hA1;have HPT : Hid (∀ wz, Ext wr wz → Calls Tryd.prog 71 #[.pointer (some ⟨B, 0, none⟩), .int .i64 (A : Int)] wz fun e w' => e = .returned (.tuple #[]) ∧ FSt w' B mp ab s (W : Int) (T : Int) (min (A + 1) (s.size - 2)) ∧ Keeps (fun k => k = mp ∨ k = ab) wz w') := Lib.hid (fun wz hz => by
        by_cases h3 : A + 3 ≤ s.size
        ·have hq := (HS.out.st.ext hz);rw [show min A (s.size - 2) = A by omega] at hq;rw [show min (A + 1) (s.size - 2) = A + 1 by omega];exact put_yes B mp ab A s _ _ wz hq h3 (by omega)
        ·refine (put_no B mp ab A _ s _ _ wz (HS.out.st.ext hz) (by omega) (by omega) (by omega)).mono ?_;rintro e w5 ⟨rfl, rfl⟩;refine ⟨rfl, ?_, Keeps.refl _ _⟩;have hq := (HS.out.st.ext hz);rwa [show min A (s.size - 2) = min (A + 1) (s.size - 2) by omega] at hq)
       go_wp2_with fail;refine (HPT.out _ (Ext.refl _)).mono ?_;rintro e w5 ⟨rfl, hq1, hq2⟩;have HSN := Lib.hid (HS.out.put hq1 hq2);clear hq1 hq2 HPT HS;go_wp2_with fail;go_roundw
       case rel => exact ⟨j + 1, A + 1, HA1.out, by go_num, by go_num, by omega, HSN⟩
       case measure => simp [intOf]; omega
      ·obtain rfl : j = M := by omega
       have HA := Lib.hid hA;clear hA;go_wp2_with fail;go_roundw
       case rel => exact ⟨A, l ++ [t], rfl, by rw [HA.out]; exact HN, HS⟩
       case measure => have := HA.out; simp [intOf]; omega
   ·obtain rfl : a = s.size := by omega
    go_wp2_with fail;go_ret2;exact ⟨l, _, rfl, owns_b HS.out.row HS.out.b0, HL.out, HS.out.ext⟩
end Go.Proofs.YtnhbjgmfbcedaaaDoor
namespace Go.Proofs.YtnhbjgmfbcedaaaDoor
open Go.RowKit
theorem align_calls (B o n V : Nat) (v : Value) (w : World) (hW : WAt w B o v V n) (hn : n < 1099511627776) :
    Calls Tryd.prog 73 #[.pointer (some ⟨B, o, none⟩)] w fun e w' => e = .returned (.tuple #[]) ∧ WAt w' B o v V ((n + 7) / 8 * 8) ∧ WStep w w' B o v v := by
  obtain ⟨c0, c1, f0, f1, ⟨l, hl, hV, hown⟩, hap, hlt⟩ := hW;have a3 : (⟨B, o + 1, none⟩ : Addr) ≠ ⟨B, o, none⟩ := by intro e; injection e with _ e2; omega
  have e8 : (8 : Int) * (l.length : Int) = (((n + 7) / 8 * 8 : Nat) : Int) := by rw [hl]; omega
  have hlenI : (l.length : Int) ≤ 1099511627776 := by omega
  have fin : ∀ m : Nat, WAt ((w.setCell ⟨B, o + 1, none⟩ (.int .i64 ((8 : Int) * (l.length : Int)))).drewN m) B o v V ((n + 7) / 8 * 8) ∧ WStep w ((w.setCell ⟨B, o + 1, none⟩ (.int .i64 ((8 : Int) * (l.length : Int)))).drewN m) B o v v := by
    intro m;rw [e8];refine ⟨⟨?_, ?_, ?_, ?_, ⟨l, by omega, hV, ?_⟩, hap, ?_⟩, ⟨?_, ?_, ?_, ?_⟩⟩
    · exact (World.cell?_setCell_other _ _ _ _ a3).trans c0
    · exact World.cell?_setCell_same _ _ _ c1
    · show World.frozen? (World.setCell _ _ _) _ = _; rw [World.frozen?_setCell]; exact f0
    · show World.frozen? (World.setCell _ _ _) _ = _; rw [World.frozen?_setCell]; exact f1
    · exact ownsRow_setCell_other hown hap _
    · exact Nat.lt_of_lt_of_le hlt (Nat.pow_le_pow_right (by decide) (by omega))
    · exact ((Keeps.refl _ w).setCell (.inl (.inl rfl)) _).drewN m
    · intro j h1 h2;have b1 : (⟨B, o + 1, none⟩ : Addr) ≠ ⟨B, j, none⟩ := by intro e; injection e with _ e2; exact h2 e2.symm
      exact World.cell?_setCell_other _ _ _ _ b1
    · intro j; show World.frozen? (World.setCell _ _ _) _ = _; rw [World.frozen?_setCell]
    · intro k hk; exact .inl hk
  have HF := Lib.hid fin
  have H8 := Lib.hid e8;rcases ownsRow_slice hown with ⟨rfl, h0⟩ | ⟨g, cap, rfl⟩
  · have HL := Lib.hid hl;have H0 := Lib.hid h0;rw [h0] at HF;clear hl hV h0 fin e8;go_enter Tryd.func73, Tryd.ntmps73
    go_wp2
    go_end0;exact ⟨rfl, HF.out 0⟩
  · have HL := Lib.hid hl;clear hl hV fin e8;go_enter Tryd.func73, Tryd.ntmps73
    go_wp2
    go_end0;exact ⟨rfl, HF.out 0⟩
end Go.Proofs.YtnhbjgmfbcedaaaDoor
namespace Go.Proofs.YtnhbjgmfbcedaaaDoor
open Go.RowKit
set_option maxHeartbeats 1000000 in
theorem bytes_calls (B o n V : Nat) (v : Value) (s : ByteArray) (w : World) (hW : WAt w B o v V n) (h8 : n % 8 = 0) (hn : n + 8 * s.size < 1099511627776) :
  Calls Tryd.prog 74 #[.pointer (some ⟨B, o, none⟩), .string s] w fun e w' => e = .returned (.tuple #[]) ∧ ∃ v', WAt w' B o v' (V + Crc.num s.data.toList * 2 ^ n) (n + 8 * s.size) ∧ WStep w w' B o v v' := by
 obtain ⟨i0, hi0, hz0, hz1, hz2⟩ := info_parts u8inf;have HA := Lib.hid (align_calls B o n V v w hW (by omega));rw [show (n + 7) / 8 * 8 = n by omega] at HA;clear hW;go_enter Tryd.func74, Tryd.ntmps74
 go_wp2_with fail;refine HA.out.mono ?_;rintro e w2 ⟨rfl, hW2, hS2⟩;obtain ⟨c0, c1, f0, f1, ⟨l, hl, hV, hown⟩, hap, hlt⟩ := hW2;obtain ⟨N, hN⟩ : ∃ N, l.length = N := ⟨_, rfl⟩;have hlN := hN;rw [hN] at hown hl;obtain ⟨x, c, rfl⟩ := lit_row hown;have HO := Lib.hid hown;have HN := Lib.hid hN;have HV := Lib.hid hV;have HS2 := Lib.hid hS2;have HP := Lib.hid (And.intro hap hlt);have hB : B < w2.heap.size := World.block_lt_of_cell? w2 _ c0;have HB := Lib.hid hB;have H8 := Lib.hid h8;have HL := Lib.hid hl;have hNb : N ≤ 140737488355328 := by omega
 have hSb : N + s.size ≤ 140737488355328 := by omega
 have F0 := Lib.hid f0;have F1 := Lib.hid f1;have C1 := Lib.hid c1;clear hown hN hlN hV hS2 hap hlt hl h8 HA;go_wp2_with (at_builtin; refine wpList_app_string rfl _ _ 61 9 rfl 0 5 i0 Tryd.underlying61 Tryd.underlying9 hi0 hz0 hz1 hz2 _ _ _ rfl HO.out s rfl ?c3 ?c4 (Nat.zero_le _) ?_)
 case c3 => unfold maxLen; omega
 case c4 => omega
 intro v8 w8 hown hgrow hat;obtain ⟨x8, c8, rfl⟩ := lit_row hown;have K : Keeps (fun k => (Value.slice x N c).ownBlock = some k) w2 w8 := Keeps.grown hgrow;have nB : ¬ (Value.slice x N c).ownBlock = some B := HP.out.1;have k0 : w8.cell? ⟨B, o, none⟩ = some (.slice x N c) := (K.cell (p := ⟨B, o, none⟩) HB.out nB).trans c0;have k1 : w8.cell? ⟨B, o + 1, none⟩ = some (.int .i64 (n : Int)) := (K.cell (p := ⟨B, o + 1, none⟩) HB.out nB).trans c1;have g0 : w8.frozen? ⟨B, o, none⟩ = false := (K.frozen (p := ⟨B, o, none⟩) HB.out nB).trans f0;have g1 : w8.frozen? ⟨B, o + 1, none⟩ = false := (K.frozen (p := ⟨B, o + 1, none⟩) HB.out nB).trans f1;have nB8 : (Value.slice x8 (N + s.size) c8).ownBlock ≠ some B := by
  rcases hat with q | q
  ·rw [q]; exact nB
  ·rw [q]; intro e; injection e with e; have := HB.out; omega
 have hnew : ∀ k, (Value.slice x8 (N + s.size) c8).ownBlock = some k → (Value.slice x N c).ownBlock = some k ∨ w2.heap.size ≤ k := by
  intro k hk;rcases hat with q | q
  ·rw [q] at hk; exact .inl hk
  ·rw [q] at hk; injection hk with hk; exact .inr (by omega)
 have a3 : (⟨B, o + 1, none⟩ : Addr) ≠ ⟨B, o, none⟩ := by intro e; injection e with _ e2; omega
 have e8 : (8 : Int) * ((N + s.size : Nat) : Int) = ((n + 8 * s.size : Nat) : Int) := by have := HL.out; have := H8.out; omega
 have HF : Hid (WAt ((w8.setCell ⟨B, o, none⟩ (.slice x8 (N + s.size) c8)).setCell ⟨B, o + 1, none⟩ (.int .i64 ((8 : Int) * ((N + s.size : Nat) : Int)))) B o (.slice x8 (N + s.size) c8) (V + Crc.num s.data.toList * 2 ^ n) (n + 8 * s.size) ∧ WStep w2 ((w8.setCell ⟨B, o, none⟩ (.slice x8 (N + s.size) c8)).setCell ⟨B, o + 1, none⟩ (.int .i64 ((8 : Int) * ((N + s.size : Nat) : Int)))) B o (.slice x N c) (.slice x8 (N + s.size) c8)) := Lib.hid (by
  rw [e8];have hl8 : (l ++ s.data.toList).length = N + s.size := by rw [List.length_append, HN.out]; rfl
  have e1 : 2 ^ n = 2 ^ (8 * l.length) := by rw [HN.out, HL.out]; congr 1; have := H8.out; omega
  have hnum : Crc.num (l ++ s.data.toList) = V + Crc.num s.data.toList * 2 ^ n := by rw [numcat, HV.out, e1]
  refine ⟨⟨?_, ?_, ?_, ?_, ⟨l ++ s.data.toList, by rw [hl8]; have := HL.out; have := H8.out; omega, hnum, ?_⟩, nB8, ?_⟩, ⟨?_, ?_, ?_, hnew⟩⟩
  ·exact (World.cell?_setCell_other _ _ _ _ a3).trans (World.cell?_setCell_same _ _ _ k0)
  ·exact World.cell?_setCell_same _ _ _ ((World.cell?_setCell_other _ _ _ _ (fun e => a3 e.symm)).trans k1)
  ·rw [World.frozen?_setCell, World.frozen?_setCell]; exact g0
  ·rw [World.frozen?_setCell, World.frozen?_setCell]; exact g1
  ·rw [hl8, show bytesV (l ++ s.data.toList) = bytesV l ++ Lib.strCells s by rw [strCells_eq]; simp [bytesV]];exact ownsRow_setCell_other (ownsRow_setCell_other hown nB8 _) nB8 _
  ·rw [← hnum];have h := Crc.num_lt (l ++ s.data.toList);rw [hl8] at h;rw [show n + 8 * s.size = 8 * (N + s.size) by have := HL.out; have := H8.out; omega];exact h
  ·exact ((K.mono (fun _ _ q => .inr q)).setCell (p := ⟨B, o, none⟩) (.inl (.inl rfl)) _).setCell (p := ⟨B, o + 1, none⟩) (.inl (.inl rfl)) _
  ·intro j h1 h2;have b0 : (⟨B, o, none⟩ : Addr) ≠ ⟨B, j, none⟩ := by intro e; injection e with _ e2; exact h1 e2.symm
   have b1 : (⟨B, o + 1, none⟩ : Addr) ≠ ⟨B, j, none⟩ := by intro e; injection e with _ e2; exact h2 e2.symm
   exact ((World.cell?_setCell_other _ _ _ _ b1).trans (World.cell?_setCell_other _ _ _ _ b0)).trans (K.cell (p := ⟨B, j, none⟩) HB.out nB)
  ·intro j;rw [World.frozen?_setCell, World.frozen?_setCell];exact K.frozen (p := ⟨B, j, none⟩) HB.out nB)
 clear hown hgrow hat K nB nB8 hnew e8 c0 c1 f0 f1;go_wp2_with fail;go_end0;exact ⟨rfl, _, HF.out.1, HS2.out.trans HF.out.2⟩
end Go.Proofs.YtnhbjgmfbcedaaaDoor
namespace Go.Proofs.YtnhbjgmfbcedaaaDoor
open Go.RowKit
theorem xor16 (n : Nat) (h : n < 65536) : bits BinOp.xor IntKind.u32 (n : Int) 65535 = ((65535 - n : Nat) : Int) := by
 rw [show (65535 : Int) = ((65535 : Nat) : Int) from rfl, u32_xor_nat n 65535 (by omega) (by decide), xor_ones n h]
theorem num_blk (done p : List UInt8) (last : Nat) (hl : last < 2) (hp : p.length ≤ 65535) : Crc.num done + last * 2 ^ (8 * done.length) + p.length * 2 ^ (8 * (done.length + 1)) + (65535 - p.length) * 2 ^ (8 * (done.length + 1) + 16) + Crc.num p * 2 ^ (8 * (done.length + 1) + 16 + 16) = Crc.num (done ++ Sto.blk last p) := by
 rw [numcat];have hM : Crc.num (Sto.blk last p) = last + 256 * (p.length % 256 + 256 * (p.length / 256 + 256 * ((255 - p.length % 256) + 256 * ((255 - p.length / 256) + 256 * Crc.num p)))) := by
  unfold Sto.blk;simp only [List.cons_append, List.nil_append, Crc.num];rw [Sto.ofNat_toNat _ (by omega), Sto.ofNat_toNat _ (by omega), Sto.ofNat_toNat _ (by omega), Sto.ofNat_toNat _ (by omega), Sto.ofNat_toNat _ (by omega)]
 rw [hM];obtain ⟨X, hX⟩ : ∃ X, 2 ^ (8 * done.length) = X := ⟨_, rfl⟩;have e1 : 2 ^ (8 * (done.length + 1)) = X * 256 := by rw [← hX, Nat.mul_add, Nat.pow_add]
 have e2 : 2 ^ (8 * (done.length + 1) + 16) = X * 16777216 := by rw [Nat.pow_add, e1, Nat.mul_assoc]
 have e3 : 2 ^ (8 * (done.length + 1) + 16 + 16) = X * 1099511627776 := by rw [Nat.pow_add, e2, Nat.mul_assoc]
 rw [hX, e1, e2, e3];obtain ⟨n, hn⟩ : ∃ n, p.length = n := ⟨_, rfl⟩;rw [hn] at hp ⊢;generalize Crc.num p = z;generalize Crc.num done = q;have e4 : last + 256 * (n % 256 + 256 * (n / 256 + 256 * ((255 - n % 256) + 256 * ((255 - n / 256) + 256 * z)))) = last + n * 256 + (65535 - n) * 16777216 + z * 1099511627776 := by omega
 rw [e4];simp only [Nat.add_mul, Nat.mul_comm X, Nat.mul_assoc, Nat.add_assoc]
structure StoGo (w0 wr : World) (B : Nat) (v : Value) (done : List UInt8) : Prop where
 at_ : WAt wr B 0 v (Crc.num done) (8 * done.length)
 ext : Ext w0 wr
 nb : w0.heap.size ≤ B
 nv : ∀ k, v.ownBlock = some k → w0.heap.size ≤ k
theorem StoGo.step {w0 wr w' : World} {B : Nat} {v v' : Value} (he : Ext w0 wr) (hb : w0.heap.size ≤ B) (hv : ∀ k, v.ownBlock = some k → w0.heap.size ≤ k) (hs : WStep wr w' B 0 v v') : Ext w0 w' ∧ ∀ k, v'.ownBlock = some k → w0.heap.size ≤ k := by
 refine ⟨Below.trans he (hs.keeps.below he.size (fun k hk q => ?_)), fun k q => ?_⟩
 ·rcases q with q | q
  ·omega
  ·have := hv k q; omega
 ·rcases hs.new k q with r | r
  ·exact hv k r
  ·have := he.size; omega
set_option linter.unusedSimpArgs false in
set_option maxHeartbeats 4000000 in
theorem stored_calls (t : ByteArray) (w : World) (ht : t.size ≤ 300000) :
  Calls Tryd.prog 32 #[.string t] w fun e w' => e = .returned (.string (tb (Sto.all (t.size + 1) t.data.toList))) ∧ Ext w w' := by
 obtain ⟨A, hA⟩ : ∃ A, Sto.all (t.size + 1) t.data.toList = A := ⟨_, rfl⟩;rw [hA];have hAl : A.length ≤ 300100 := by rw [← hA]; have := Sto.all_length (t.size + 1) t.data.toList; rw [list_size] at this; omega
 have HA := Lib.hid hA;clear hA;go_enter Tryd.func32, Tryd.ntmps32
 go_upto_block 0 with fail;obtain ⟨B, hB⟩ : ∃ B, w.heap.size = B := ⟨_, rfl⟩;refine wp_world (fun wz => Hid (StoGo w wz B (.slice none 0 0) [])) (Lib.hid ⟨⟨?_, ?_, ?_, ?_, ⟨[], rfl, rfl, World.ownsRow_nil _ _ _ _⟩, (by intro e; cases e), by simp [Crc.num]⟩, (Ext.refl w).alloc _, by omega, fun k q => by cases q⟩) ?_
 ·subst hB; exact World.cell?_alloc_at _ _ _ _ rfl
 ·subst hB; exact World.cell?_alloc_at _ _ _ _ rfl
 ·subst hB; exact World.frozen?_alloc_at _ _ _ _ rfl
 ·subst hB; exact World.frozen?_alloc_at _ _ _ _ rfl
 rw [hB];have HBB := Lib.hid hB;clear hB;rintro w1 HS;go_wp2_with fail;go_loopw [0] (fun y wr => ∃ (R : ByteArray) (done : List UInt8) (k : Nat) (v : Value), y = .string R ∧ R.size ≤ t.size ∧ Hid (done ++ Sto.all k R.data.toList = A) ∧ Hid (R.size < k) ∧ Hid (StoGo w wr B v done)) (fun y _ => match y with | .string R => R.size | _ => 0)
 case atStart => exact ⟨t, [], t.size + 1, _, rfl, Nat.le_refl _, Lib.hid (by rw [List.nil_append]; exact HA.out), Lib.hid (Nat.lt_succ_self _), HS⟩
 case round =>
  clear HS HA;obtain ⟨R, done, k, v, rfl, hRt, HD, HK, HS⟩ := hrel;obtain ⟨d, hd⟩ : ∃ d, done.length = d := ⟨_, rfl⟩;have hdb : d ≤ 300100 := by have := congrArg List.length HD.out; rw [List.length_append] at this; omega
  have HDl := Lib.hid hd;have HAt := Lib.hid HS.out.at_;rw [hd] at HAt;have HE := Lib.hid HS.out.ext;have HNB := Lib.hid HS.out.nb;have HNV := Lib.hid HS.out.nv;obtain ⟨V, hV⟩ : ∃ V, Crc.num done = V := ⟨_, rfl⟩;rw [hV] at HAt;have HV := Lib.hid hV;obtain ⟨k, rfl⟩ : ∃ j, k = j + 1 := ⟨k - 1, by have := HK.out; omega⟩;clear HS hd hV;by_cases h6 : R.size ≤ 65535
  ·obtain ⟨n, hn⟩ : ∃ n, R.size = n := ⟨_, rfl⟩;have HNn := Lib.hid hn;have t1 : ((n : Int) == (R.size : Int)) = true := beq_iff_eq.2 (by omega);have HDA : Hid (done ++ Sto.blk 1 R.data.toList = A) := Lib.hid (by rw [← HD.out, Sto.all_last (by rw [list_size]; exact h6)]);have hnR : n ≤ R.size := by omega
   have hnRI : (n : Int) ≤ (R.size : Int) := by omega
   have hn0 : (0 : Int) ≤ (n : Int) := by omega
   have hnt : ((n : Nat) : Int).toNat = n := by omega
   have hmn : (if (R.size : Int) < 65535 then (R.size : Int) else 65535) = (n : Int) := by split <;> omega
   have hn6 : n < 65536 := by omega
   have wn : ∀ z, z = (n : Int) → IntKind.u32.wrap z = z := by rintro _ rfl; unfold IntKind.wrap; simp [IntKind.bits, IntKind.signed]; omega
   have hkm : (n : Int) % 4294967296 = (n : Int) := by omega
   have hxo := xor16 n hn6;obtain ⟨y, hy⟩ : ∃ y, 65535 - n = y := ⟨_, rfl⟩;rw [hy] at hxo;have HY := Lib.hid hy;have hy6 : y < 65536 := by omega
   clear hy;(try clear hn);go_wp2_with fail;refine (put_in B 0 (8 * d) V 1 3 _ _ HAt.out (by decide) (by decide) (by omega)).mono ?_;rintro e w2 ⟨rfl, v2, h2, s2⟩;have HAt2 := Lib.hid h2;obtain ⟨q1, q2⟩ := StoGo.step HE.out HNB.out HNV.out s2;have HE2 := Lib.hid q1;have HNV2 := Lib.hid q2;clear h2 s2 q1 q2 HAt HE HNV;go_wp2_with fail;refine (align_calls B 0 _ _ _ _ HAt2.out (by omega)).mono ?_;rintro e w3 ⟨rfl, h3, s3⟩;rw [show (8 * d + 3 + 7) / 8 * 8 = 8 * (d + 1) by omega] at h3;have HAt3 := Lib.hid h3;obtain ⟨q1, q2⟩ := StoGo.step HE2.out HNB.out HNV2.out s3;have HE3 := Lib.hid q1;have HNV3 := Lib.hid q2;clear h3 s3 q1 q2 HAt2 HE2 HNV2;go_wp2_with fail;refine (put_in B 0 _ _ n 16 _ _ HAt3.out (by decide) (by omega) (by omega)).mono ?_;rintro e w4 ⟨rfl, v4, h4, s4⟩;have HAt4 := Lib.hid h4;obtain ⟨q1, q2⟩ := StoGo.step HE3.out HNB.out HNV3.out s4;have HE4 := Lib.hid q1;have HNV4 := Lib.hid q2;clear h4 s4 q1 q2 HAt3 HE3 HNV3;go_wp2_with fail;refine (put_in B 0 _ _ y 16 _ _ HAt4.out (by decide) (by omega) (by omega)).mono ?_;rintro e w5 ⟨rfl, v5, h5, s5⟩;have HAt5 := Lib.hid h5;obtain ⟨q1, q2⟩ := StoGo.step HE4.out HNB.out HNV4.out s5;have HE5 := Lib.hid q1;have HNV5 := Lib.hid q2;clear h5 s5 q1 q2 HAt4 HE4 HNV4 wn hkm hxo;obtain ⟨P, hP⟩ : ∃ P, R.extract 0 n = P := ⟨_, rfl⟩;have hPs : P.size = n := by rw [← hP]; simp; omega
   have hPl : P.data.toList = R.data.toList.take n := by rw [← hP, ex_list]; simp
   have HPl := Lib.hid hPl;have HPs := Lib.hid hPs;have hb5 : 8 * (d + 1) + 16 + 16 + 8 * P.size < 1099511627776 := by omega
   clear hPl hPs;go_wp2_with fail;(try rw [hP]);refine (bytes_calls B 0 _ _ _ P _ HAt5.out (by omega) hb5).mono ?_;rintro e w6 ⟨rfl, v6, h6x, s6⟩;clear hP;have HF : Hid (StoGo w w6 B v6 (done ++ Sto.blk 1 P.data.toList)) := Lib.hid (by
    obtain ⟨q1, q2⟩ := StoGo.step HE5.out HNB.out HNV5.out s6;refine ⟨?_, q1, HNB.out, q2⟩;have hpl : P.data.toList.length = n := by rw [list_size]; exact HPs.out
    have e1 := num_blk done P.data.toList 1 (by decide) (by omega);rw [HDl.out, HV.out, hpl, HY.out] at e1;rw [← e1, List.length_append, HDl.out, Sto.blk_length, hpl, show 8 * (d + (5 + n)) = 8 * (d + 1) + 16 + 16 + 8 * n by omega];rw [HPs.out] at h6x;exact h6x)
   clear h6x s6 HAt5 HE5 HNV5;have HPR : Hid (P.data.toList = R.data.toList) := Lib.hid (by rw [HPl.out, List.take_of_length_le (by rw [list_size, HNn.out]; exact Nat.le_refl _)]);have hE : R.extract n R.size = ⟨#[]⟩ := by rw [HNn.out]; apply bts_ext; rw [ex_list]; simp
   go_wp2_with fail;refine (text_calls B 0 _ _ _ _ HF.out.at_).mono ?_;rintro e w7 ⟨⟨l, hl, hV, rfl⟩, h7⟩;subst h7;have hlA : l = A := by
    have e1 : l = done ++ Sto.blk 1 P.data.toList := Crc.num_inj _ _ (by rw [hl]; omega) hV;rw [e1, HPR.out, HDA.out]
   subst hlA;go_wp2_with fail;go_ret;refine ⟨?_, HF.out.ext⟩;rw [tb_eq];rfl
  ·have t1 : ((65535 : Int) == (R.size : Int)) = false := beq_eq_false_iff_ne.2 (by omega);obtain ⟨n, hn⟩ : ∃ n, n = 65535 := ⟨_, rfl⟩;have HN := Lib.hid hn;have hnI : (65535 : Int) = (n : Int) := by omega
   rw [hnI] at t1;have HDA : Hid (done ++ (Sto.blk 0 (R.data.toList.take n) ++ Sto.all k (R.data.toList.drop n)) = A) := Lib.hid (by rw [← HD.out, Sto.all_more (by rw [list_size]; exact h6), hn]);clear hnI;have hnR : n ≤ R.size := by omega
   have hnRI : (n : Int) ≤ (R.size : Int) := by omega
   have hn0 : (0 : Int) ≤ (n : Int) := by omega
   have hnt : ((n : Nat) : Int).toNat = n := by omega
   have hmn : (if (R.size : Int) < 65535 then (R.size : Int) else 65535) = (n : Int) := by split <;> omega
   have hn6 : n < 65536 := by omega
   have wn : ∀ z, z = (n : Int) → IntKind.u32.wrap z = z := by rintro _ rfl; unfold IntKind.wrap; simp [IntKind.bits, IntKind.signed]; omega
   have hkm : (n : Int) % 4294967296 = (n : Int) := by omega
   have hxo := xor16 n hn6;obtain ⟨y, hy⟩ : ∃ y, 65535 - n = y := ⟨_, rfl⟩;rw [hy] at hxo;have HY := Lib.hid hy;have hy6 : y < 65536 := by omega
   clear hy;(try clear hn);go_wp2_with fail;refine (put_in B 0 (8 * d) V 0 3 _ _ HAt.out (by decide) (by decide) (by omega)).mono ?_;rintro e w2 ⟨rfl, v2, h2, s2⟩;have HAt2 := Lib.hid h2;obtain ⟨q1, q2⟩ := StoGo.step HE.out HNB.out HNV.out s2;have HE2 := Lib.hid q1;have HNV2 := Lib.hid q2;clear h2 s2 q1 q2 HAt HE HNV;go_wp2_with fail;refine (align_calls B 0 _ _ _ _ HAt2.out (by omega)).mono ?_;rintro e w3 ⟨rfl, h3, s3⟩;rw [show (8 * d + 3 + 7) / 8 * 8 = 8 * (d + 1) by omega] at h3;have HAt3 := Lib.hid h3;obtain ⟨q1, q2⟩ := StoGo.step HE2.out HNB.out HNV2.out s3;have HE3 := Lib.hid q1;have HNV3 := Lib.hid q2;clear h3 s3 q1 q2 HAt2 HE2 HNV2;go_wp2_with fail;refine (put_in B 0 _ _ n 16 _ _ HAt3.out (by decide) (by omega) (by omega)).mono ?_;rintro e w4 ⟨rfl, v4, h4, s4⟩;have HAt4 := Lib.hid h4;obtain ⟨q1, q2⟩ := StoGo.step HE3.out HNB.out HNV3.out s4;have HE4 := Lib.hid q1;have HNV4 := Lib.hid q2;clear h4 s4 q1 q2 HAt3 HE3 HNV3;go_wp2_with fail;refine (put_in B 0 _ _ y 16 _ _ HAt4.out (by decide) (by omega) (by omega)).mono ?_;rintro e w5 ⟨rfl, v5, h5, s5⟩;have HAt5 := Lib.hid h5;obtain ⟨q1, q2⟩ := StoGo.step HE4.out HNB.out HNV4.out s5;have HE5 := Lib.hid q1;have HNV5 := Lib.hid q2;clear h5 s5 q1 q2 HAt4 HE4 HNV4 wn hkm hxo;obtain ⟨P, hP⟩ : ∃ P, R.extract 0 n = P := ⟨_, rfl⟩;have hPs : P.size = n := by rw [← hP]; simp; omega
   have hPl : P.data.toList = R.data.toList.take n := by rw [← hP, ex_list]; simp
   have HPl := Lib.hid hPl;have HPs := Lib.hid hPs;have hb5 : 8 * (d + 1) + 16 + 16 + 8 * P.size < 1099511627776 := by omega
   clear hPl hPs;go_wp2_with fail;(try rw [hP]);refine (bytes_calls B 0 _ _ _ P _ HAt5.out (by omega) hb5).mono ?_;rintro e w6 ⟨rfl, v6, h6x, s6⟩;clear hP;have HF : Hid (StoGo w w6 B v6 (done ++ Sto.blk 0 P.data.toList)) := Lib.hid (by
    obtain ⟨q1, q2⟩ := StoGo.step HE5.out HNB.out HNV5.out s6;refine ⟨?_, q1, HNB.out, q2⟩;have hpl : P.data.toList.length = n := by rw [list_size]; exact HPs.out
    have e1 := num_blk done P.data.toList 0 (by decide) (by omega);rw [HDl.out, HV.out, hpl, HY.out] at e1;rw [← e1, List.length_append, HDl.out, Sto.blk_length, hpl, show 8 * (d + (5 + n)) = 8 * (d + 1) + 16 + 16 + 8 * n by omega];rw [HPs.out] at h6x;exact h6x)
   clear h6x s6 HAt5 HE5 HNV5;obtain ⟨S, hS⟩ : ∃ S, R.extract n R.size = S := ⟨_, rfl⟩;have hSs : S.size = R.size - n := by rw [← hS]; simp
   have hSl : S.data.toList = R.data.toList.drop n := by rw [← hS, ex_list, List.take_of_length_le (by rw [List.length_drop, list_size]; omega)]
   have hne : S.toList.isEmpty = false := emp_no S (by omega);have HSl := Lib.hid hSl;have HSs := Lib.hid hSs;clear hSl hSs;go_wp2_with fail;go_roundw
   case rel => exact ⟨S, done ++ Sto.blk 0 P.data.toList, k, _, rfl, by have := HSs.out; omega, Lib.hid (by rw [List.append_assoc, HPl.out, HSl.out]; exact HDA.out), Lib.hid (by have := HSs.out; have := HK.out; have := HN.out; omega), HF⟩
   case measure => show S.size < R.size; have := HSs.out; have := HN.out; omega
theorem Stored_calls (t : ByteArray) (w : World) (ht : t.size ≤ 300000) :
  Calls Tryd.prog 12 #[.string t] w fun e w' => e = .returned (.tuple #[.string (tb (Sto.all (t.size + 1) t.data.toList)), .nilIface]) ∧ Ext w w' := by
 have HS := Lib.hid (fun w => stored_calls t w ht);have t1 : decide ((300000 : Int) < (t.size : Int)) = false := decide_eq_false (by omega);have n1 : ¬ 300000 < t.size := by omega
 go_enter Tryd.func12, Tryd.ntmps12
 go_wp2_with fail;refine (HS.out _).mono ?_;rintro e w2 ⟨rfl, h2⟩;go_wp2_with fail;go_ret2;exact ⟨rfl, h2⟩
theorem blank_calls (w : World) : Calls Tryd.prog 11 #[] w fun e w' => e = .returned (.bool true) ∧ Ext w w' := by
 have HS := Lib.hid (fun w => Stored_calls ⟨#[]⟩ w (by decide));have e1 : tb (Sto.all ((⟨#[]⟩ : ByteArray).size + 1) (⟨#[]⟩ : ByteArray).data.toList) = ⟨#[1, 0, 0, 255, 255]⟩ := by rw [tb_eq]; rfl
 rw [e1] at HS;clear e1;go_enter Tryd.func11, Tryd.ntmps11
 go_wp2_with fail;refine (HS.out _).mono ?_;rintro e w2 ⟨rfl, h2⟩;go_wp2_with fail;go_ret;exact ⟨rfl, h2⟩
end Go.Proofs.YtnhbjgmfbcedaaaDoor
namespace Adl
def step (p : Nat × Nat) (b : Nat) : Nat × Nat := ((p.1 + b) % 65521, (p.2 + (p.1 + b) % 65521) % 65521)
def run (p : Nat × Nat) (l : List UInt8) : Nat × Nat := l.foldl (fun p b => step p b.toNat) p
def tell (p : Nat × Nat) : Nat := p.2 * 65536 + p.1
def start (a : Nat) : Nat × Nat := (a % 65536 % 65521, a / 65536 % 65521)
def more (a : Nat) (l : List UInt8) : Nat := tell (run (start a) l)
def adler (l : List UInt8) : Nat := more 1 l
def Ok (p : Nat × Nat) : Prop := p.1 < 65521 ∧ p.2 < 65521
theorem start_ok (a : Nat) : Ok (start a) := ⟨Nat.mod_lt _ (by decide), Nat.mod_lt _ (by decide)⟩
theorem step_ok (p : Nat × Nat) (b : Nat) : Ok (step p b) := ⟨Nat.mod_lt _ (by decide), Nat.mod_lt _ (by decide)⟩
theorem run_ok {p : Nat × Nat} (h : Ok p) (l : List UInt8) : Ok (run p l) := by
  induction l generalizing p with
  | nil => exact h
  | cons b l ih => exact ih (step_ok p b.toNat)
theorem tell_lt {p : Nat × Nat} (h : Ok p) : tell p < 4294967296 := by obtain ⟨h1, h2⟩ := h; unfold tell; omega
theorem more_lt (a : Nat) (l : List UInt8) : more a l < 4294967296 := tell_lt (run_ok (start_ok a) l)
end Adl
namespace Go.Proofs.YtnhbjgmfbcedaaaDoor
open Go.RowKit
theorem take_snoc (s : ByteArray) (k : Nat) (h : k < s.size) : s.data.toList.take (k + 1) = s.data.toList.take k ++ [s[k]] := by
 rw [List.take_succ_eq_append_getElem (by simpa using h)]; rfl
theorem adl_snoc (p : Nat × Nat) (s : ByteArray) (k : Nat) (h : k < s.size) : Adl.run p (s.data.toList.take (k + 1)) = Adl.step (Adl.run p (s.data.toList.take k)) s[k].toNat := by
 rw [take_snoc s k h]; simp [Adl.run, List.foldl_append]
theorem or_tell (x y : Nat) (hx : x < 65521) (hy : y < 65521) : bits BinOp.or IntKind.u32 ((y : Int) * 65536) (x : Int) = ((Adl.tell (x, y) : Nat) : Int) := by
 rw [show ((y : Int) * 65536) = ((y * 65536 : Nat) : Int) by omega, u32_or_nat _ _ (by omega) (by omega)];rw [nat_join 16 (y * 65536) x (by omega) (by omega)]; rfl
theorem moreAdler_any (a : Nat) (s : ByteArray) (w : World) (ha : a < 4294967296) (hs : s.size ≤ maxLen) :
  Calls Tryd.prog 90 #[.int .u32 (a : Int), .string s] w fun e w' => e = .returned (.int .u32 ((Adl.more a s.data.toList : Nat) : Int)) ∧ w = w' := by
 unfold maxLen at hs;have ea : bits BinOp.and IntKind.u32 (a : Int) 65535 = ((a % 65536 : Nat) : Int) := by
  have := u32_and_nat a 65535 ha (by decide); rw [nat_mask16] at this; exact this
 go_enter Tryd.func90, Tryd.ntmps90
 go_wp2
 clear ea;go_loop [5, 6, 7, 16] (fun u v _ i => ∃ k x y : Nat, k ≤ s.size ∧ x < 65521 ∧ y < 65521 ∧ Hid (Adl.run (Adl.start a) (s.data.toList.take k) = (x, y)) ∧ i = .int .i64 k ∧ u = .int .u32 x ∧ v = .int .u32 y) (fun _ _ _ i => s.size - (intOf i).toNat)
 case atStart => exact ⟨0, a % 65536 % 65521, a / 65536 % 65521, by omega, by omega, by omega, rfl, rfl, by go_num, by go_num⟩
 case round =>
  obtain ⟨k, x, y, hk, hx, hy, HR, rfl, rfl, rfl⟩ := hrel;by_cases hlt : k < s.size
  ·have HS : Hid (Adl.run (Adl.start a) (s.data.toList.take (k + 1)) = ((x + s[k].toNat) % 65521, (y + (x + s[k].toNat) % 65521) % 65521)) := by
    have := adl_snoc (Adl.start a) s k hlt; rw [HR.out] at this; exact this
   have hb : s[k].toNat < 256 := s[k].toNat_lt;go_wp2
   go_round
   case rel => exact ⟨k + 1, _, _, by omega, Nat.mod_lt _ (by decide), Nat.mod_lt _ (by decide), HS, by go_num, by go_num, by go_num⟩
   case measure => simp [intOf]; omega
  ·obtain rfl : k = s.size := by omega
   have eo := or_tell x y hx hy;have HF : Hid (Adl.more a s.data.toList = Adl.tell (x, y)) := by
    have := HR.out; rw [List.take_of_length_le (by simp)] at this; unfold Adl.more; rw [this]; rfl
   go_wp2
   go_ret;exact ⟨by rw [HF.out]; rfl, rfl⟩
theorem adler_any (s : ByteArray) (w : World) (hs : s.size ≤ maxLen) :
  Calls Tryd.prog 52 #[.string s] w fun e w' => e = .returned (.int .u32 ((Adl.adler s.data.toList : Nat) : Int)) ∧ w = w' := by
 go_enter Tryd.func52, Tryd.ntmps52
 go_wp2_with (go_at_call 90; refine (moreAdler_any 1 _ _ (by omega) hs).mono ?_; rintro e w' ⟨rfl, rfl⟩);go_ret;exact ⟨rfl, rfl⟩
end Go.Proofs.YtnhbjgmfbcedaaaDoor
namespace Go.Proofs.YtnhbjgmfbcedaaaDoor
open Go.RowKit
theorem bytes_len (s : ByteArray) : s.data.toList.length = s.size := rfl
def vstep (x : Nat) (b : UInt8) : Nat := x % 16777216 * 256 + b.toNat
def valN (l : List UInt8) : Nat := l.foldl vstep 0
theorem vstep_lt (x : Nat) (b : UInt8) : vstep x b < 4294967296 := by unfold vstep; have := b.toNat_lt; omega
theorem valN_succ {l : List UInt8} {k : Nat} (hk : k < l.length) : valN (l.take (k + 1)) = vstep (valN (l.take k)) l[k] := by
  unfold valN;rw [List.take_add_one, List.getElem?_eq_getElem hk, List.foldl_append]; rfl
theorem valN_lt (l : List UInt8) : valN l < 4294967296 := by
  rcases List.eq_nil_or_concat l with rfl | ⟨q, b, rfl⟩
  · decide
  · unfold valN; rw [List.concat_eq_append, List.foldl_append]; exact vstep_lt _ _
theorem valN_four (a b c d : UInt8) : valN [a, b, c, d] = 16777216 * a.toNat + 65536 * b.toNat + 256 * c.toNat + d.toNat := by
  have := a.toNat_lt; have := b.toNat_lt; have := c.toNat_lt;simp only [valN, List.foldl_cons, List.foldl_nil, vstep]; omega
def big4 (n : Nat) : List UInt8 := [UInt8.ofNat (n / 16777216), UInt8.ofNat (n / 65536), UInt8.ofNat (n / 256), UInt8.ofNat n]
theorem valN_big4 (n : Nat) (h : n < 4294967296) : valN (big4 n) = n := by
  unfold big4; rw [valN_four]; simp only [UInt8.toNat_ofNat']; omega
theorem or_low8 (x : Nat) (y : UInt8) : bits BinOp.or IntKind.u32 ((x : Int) * 256 % 4294967296) ((y.toNat : Int) % 4294967296) = ((vstep x y : Nat) : Int) := by
  have hy := y.toNat_lt;rw [show (y.toNat : Int) % 4294967296 = (y.toNat : Int) by omega, show ((x : Int) * 256 % 4294967296) = ((x % 16777216 * 256 : Nat) : Int) by omega, u32_or_nat _ _ (by omega) (by omega), nat_join 8 (x % 16777216 * 256) y.toNat (by omega) (by omega)];rfl
end Go.Proofs.YtnhbjgmfbcedaaaDoor
namespace Go.Proofs.YtnhbjgmfbcedaaaDoor
open Go.RowKit
theorem list_sz (s : ByteArray) : s.data.toList.length = s.size := rfl
/-- tokens of a text, as they come from match.Tokens -/
theorem toks_own {w : World} {b : Nat} {v : Value} {s : ByteArray} {W T : Nat} {l : List Tk} (h : w.ownsRow b 84 3 v l.length (tkV l.length (tkl l))) (hT : TL s W T s.size l) : ∃ x c, v = .slice x l.length c ∧ Toks w x l.length (tkl l) :=
 Toks.of_own h (fun i hi => hT.ok _ (by unfold tkl; rw [List.getD, List.getElem?_eq_getElem hi]; exact List.getElem_mem hi))
theorem tkl_map (l : List Tk) : (List.range l.length).map (tkl l) = l := by
 apply List.ext_getElem
 ·simp
 ·intro i h1 h2;simp [tkl, List.getD, List.getElem?_eq_getElem h2]
theorem tl_exp {s : ByteArray} {W T : Nat} {l : List Tk} (hT : TL s W T s.size l) : expL (tkl l) l.length = .ok s.data.toList := by
 have := hT.means;rw [pre_all] at this;exact this
theorem tl_means {s : ByteArray} {W T : Nat} {l : List Tk} (hT : TL s W T s.size l) : Dfl.Means [] l s.data.toList := by
 have := Dfl.means_exp l.length _ (tl_exp hT);rw [tkl_map] at this;exact this
/-- the shortest of three ways -/
def DfaP (s : ByteArray) (e : Ending) : Prop := ∃ l : List UInt8, e = .returned (.tuple #[.string ⟨l.toArray⟩, .nilIface]) ∧ Reads l s.data.toList ∧ l.length ≤ (Sto.all (s.size + 1) s.data.toList).length
set_option linter.unusedSimpArgs false in
set_option maxHeartbeats 4000000 in
theorem deflate_any (s : ByteArray) (w : World) (hTb : Tabs w) (EB ES : Value) (hB : w.cell? ⟨0, 0, none⟩ = some EB) (hS : w.cell? ⟨3, 0, none⟩ = some ES) (hs : s.size ≤ 300000) :
  Calls Tryd.prog 20 #[.string s] w fun e w' => DfaP s e ∧ Ext w w' := by
 have HTb := Lib.hid hTb;have HB := Lib.hid hB;have HS := Lib.hid hS;have hK := fun w => tokens_good s 32768 w hs (by decide) (by decide);simp only [show ((32768 : Nat) : Int) = 32768 from rfl] at hK;have HK := Lib.hid hK;obtain ⟨L, hL⟩ : ∃ L, Sto.all (s.size + 1) s.data.toList = L := ⟨_, rfl⟩;have hSt := fun w => stored_calls s w hs;rw [hL, tb_eq] at hSt;have HSt := Lib.hid hSt;have H0 : Hid (Reads L s.data.toList ∧ L.length ≤ L.length) := Lib.hid ⟨by rw [← hL]; exact reads_stored s.data.toList, Nat.le_refl _⟩;have HL := Lib.hid hL;have t0 : decide ((300000 : Int) < (s.size : Int)) = false := decide_eq_false (by omega);have n0 : ¬ 300000 < s.size := by omega
 clear hTb hB hS hK hSt hL;go_enter Tryd.func20, Tryd.ntmps20
 go_wp2_with fail;refine (HK.out _).mono ?_;rintro e w1 ⟨ts, v, rfl, hown, hTL, hX⟩;obtain ⟨x, c, rfl, hT⟩ := toks_own hown hTL;have HT := Lib.hid hT;have HTL := Lib.hid hTL;have X1 := Lib.hid hX;have hfew := hTL.few;obtain ⟨n, hn⟩ : ∃ n, ts.length = n := ⟨_, rfl⟩;rw [hn] at HT hfew;rw [hn];have HN := Lib.hid hn;have HOK := Lib.hid (show ∀ i, i < n → (tkl ts i).l = 0 ∨ (3 ≤ (tkl ts i).l ∧ (tkl ts i).l ≤ 258 ∧ 1 ≤ (tkl ts i).d ∧ (tkl ts i).d ≤ 32768) from by
  have := exp_ok (tl_exp hTL);rw [hn] at this;exact this)
 clear hown hTL hT hX hn;go_wp2_with fail;refine (HSt.out _).mono ?_;rintro e w2 ⟨rfl, hX⟩;have X2 := Lib.hid (X1.out.trans hX);have HT2 := Lib.hid (HT.out.ext hX);clear hX X1 HT;go_upto_block 0 with fail;refine wp_world (fun wz => Ext w2 wz ∧ Bk wz w2.heap.size #[.func (.func 55) #[] #[], .func (.func 56) #[] #[]]) ⟨(Ext.refl _).alloc _, Bk.at rfl⟩ ?_;rintro w3 ⟨hX, hK⟩;obtain ⟨FB, hFB⟩ : ∃ q, w2.heap.size = q := ⟨_, rfl⟩;rw [hFB] at hK;rw [hFB];have X3 := Lib.hid (X2.out.trans hX);have HT3 := Lib.hid (HT2.out.ext hX);have HF3 := Lib.hid hK;clear hX hK hFB X2 HT2;go_wp2_with fail;go_loopw [6, 23] (fun s6 c wr => ∃ (i : Nat) (l : List UInt8), c = .int .i64 (i : Int) ∧ i ≤ 2 ∧ s6 = .string ⟨l.toArray⟩ ∧ Hid (Reads l s.data.toList ∧ l.length ≤ L.length) ∧ Hid (Ext w3 wr)) (fun _ c _ => 2 - (intOf c).toNat)
 case atStart => exact ⟨0, L, rfl, by omega, rfl, H0, Lib.hid (Ext.refl _)⟩
 case round =>
  clear H0;obtain ⟨i, l, rfl, hi, rfl, HR, HW⟩ := hrel;have hF := HF3.out.ext HW.out;have f0 := hF.cell 0;have f1 := hF.cell 1;simp only [xg, xh] at f0 f1;clear hF;match i, hi with
  | 0, _ =>
   have t1 : decide ((0 : Int) < 2) = true := by decide
   go_wp2_with fail;refine (dfixed_any x n c (tkl ts) wr (HT3.out.ext HW.out) (HTb.out.ext (X3.out.trans HW.out)) EB ES (((X3.out.trans HW.out).cell (World.block_lt_of_cell? w _ HB.out)).trans HB.out) (((X3.out.trans HW.out).cell (World.block_lt_of_cell? w _ HS.out)).trans HS.out) (by omega) HOK.out).mono ?_;rintro e w4 ⟨⟨l2, h1, h2, rfl⟩, hX⟩;have hR2 : Reads l2 s.data.toList := reads_fixed (tl_means HTL.out) (ts := ts) (by rw [← HN.out, tkl_map] at h1; exact h1) (by rw [← HN.out, tkl_map] at h2; exact h2);have HR2 := Lib.hid hR2;have HX4 := Lib.hid (HW.out.trans hX);clear h1 h2 hX hR2;by_cases hlt : l2.length < l.length
   ·have t2 : decide ((l2.length : Int) < (l.length : Int)) = true := decide_eq_true (by omega);go_wp2_with fail;go_roundw
    case rel => exact ⟨1, l2, rfl, by omega, rfl, Lib.hid ⟨HR2.out, by have := HR.out.2; omega⟩, HX4⟩
    case measure => simp [intOf]
   ·have t2 : decide ((l2.length : Int) < (l.length : Int)) = false := decide_eq_false (by omega);go_wp2_with fail;go_roundw
    case rel => exact ⟨1, l, rfl, by omega, rfl, HR, HX4⟩
    case measure => simp [intOf]
  | 1, _ =>
   have t1 : decide ((1 : Int) < 2) = true := by decide
   go_wp2_with fail;refine (dynamic_any x n c (tkl ts) wr (HT3.out.ext HW.out) (HTb.out.ext (X3.out.trans HW.out)) EB ES (((X3.out.trans HW.out).cell (World.block_lt_of_cell? w _ HB.out)).trans HB.out) (((X3.out.trans HW.out).cell (World.block_lt_of_cell? w _ HS.out)).trans HS.out) (by omega) HOK.out).mono ?_;rintro e w4 ⟨⟨many, far, few, rs, l2, h0, h1, h2, rfl⟩, hX⟩;have hR2 : Reads l2 s.data.toList := by
    rw [← HN.out, tkl_map] at h0 h1 h2;exact reads_dyn (tl_means HTL.out) h0 h1 h2
   have HR2 := Lib.hid hR2;have HX4 := Lib.hid (HW.out.trans hX);clear h0 h1 h2 hX hR2;by_cases hlt : l2.length < l.length
   ·have t2 : decide ((l2.length : Int) < (l.length : Int)) = true := decide_eq_true (by omega);go_wp2_with fail;go_roundw
    case rel => exact ⟨2, l2, rfl, by omega, rfl, Lib.hid ⟨HR2.out, by have := HR.out.2; omega⟩, HX4⟩
    case measure => simp [intOf]
   ·have t2 : decide ((l2.length : Int) < (l.length : Int)) = false := decide_eq_false (by omega);go_wp2_with fail;go_roundw
    case rel => exact ⟨2, l, rfl, by omega, rfl, HR, HX4⟩
    case measure => simp [intOf]
  | 2, _ =>
   have t1 : decide ((2 : Int) < 2) = false := by decide
   go_wp2_with fail;go_ret2;exact ⟨⟨l, rfl, HR.out.1, by rw [HL.out]; exact HR.out.2⟩, X3.out.trans HW.out⟩
/-- head, text, sum -/
def zipL (l t : List UInt8) : List UInt8 := [120, 156] ++ (l ++ big4 (Adl.adler t))
def ZipP (s : ByteArray) (e : Ending) : Prop := ∃ l : List UInt8, e = .returned (.tuple #[.string ⟨(zipL l s.data.toList).toArray⟩, .nilIface]) ∧ Reads l s.data.toList ∧ l.length ≤ (Sto.all (s.size + 1) s.data.toList).length
theorem adl_lt (l : List UInt8) : Adl.adler l < 4294967296 := Adl.more_lt 1 l
theorem ba_app (a b : List UInt8) : (⟨a.toArray⟩ : ByteArray) ++ ⟨b.toArray⟩ = ⟨(a ++ b).toArray⟩ := by
 apply bts_ext;rw [ByteArray.data_append];simp
set_option linter.unusedSimpArgs false in
set_option maxHeartbeats 4000000 in
theorem zip_any (s : ByteArray) (w : World) (hTb : Tabs w) (EB ES : Value) (hB : w.cell? ⟨0, 0, none⟩ = some EB) (hS : w.cell? ⟨3, 0, none⟩ = some ES) (hs : s.size ≤ 300000) :
  Calls Tryd.prog 21 #[.string s] w fun e w' => ZipP s e ∧ Ext w w' := by
 have HD := Lib.hid (deflate_any s w hTb EB ES hB hS hs);have HA := Lib.hid (fun w => adler_any s w (by unfold maxLen; omega));clear hTb hB hS;go_enter Tryd.func21, Tryd.ntmps21
 go_wp2_with fail;refine HD.out.mono ?_;rintro e w1 ⟨⟨l, rfl, hR, hl⟩, hX⟩;have HR := Lib.hid (And.intro hR hl);have X1 := Lib.hid hX;have hll : l.length ≤ 400000 := by
  have := Sto.all_length (s.size + 1) s.data.toList;rw [list_sz] at this;omega
 clear hR hl hX;go_wp2_with fail;refine (HA.out _).mono ?_;rintro e w2 ⟨rfl, rfl⟩;obtain ⟨n, hn⟩ : ∃ n, Adl.adler s.data.toList = n := ⟨_, rfl⟩;rw [hn];have HN := Lib.hid hn;clear hn;have hn4 : n < 4294967296 := by rw [← HN.out]; exact adl_lt _
 obtain ⟨wa, hwa⟩ : ∃ wa, wa = w1.alloc (.cells #[.int .u8 ((n : Int) / 16777216), .int .u8 ((n : Int) / 65536 % 256), .int .u8 ((n : Int) / 256 % 256), .int .u8 ((n : Int) % 256)] 5) := ⟨_, rfl⟩;have hcr : (convert 61 9 (.slice (some ⟨w1.heap.size, 0, none⟩) 4 4)).run Tryd.prog wa = .ok (.string ⟨(big4 n).toArray⟩) wa := by
  refine run_convert_bytes_back (P := Tryd.prog) wa 61 9 5 ⟨w1.heap.size, 0, none⟩ 4 (big4 n) Tryd.underlying61 Tryd.underlying5 Tryd.underlying9 (fun j hj => ?_);have hj4 : j < 4 := hj;rw [add_plain, hwa];match j, hj4 with
  | 0, _ => simp [big4]; omega
  | 1, _ => simp [big4]
  | 2, _ => simp [big4]
  | 3, _ => simp [big4]
 rw [hwa] at hcr;clear hwa wa;have hb4 : (big4 n).length = 4 := rfl;have hcat : ¬ 9223372036854775807 < 2 + l.length + (big4 n).length := by omega
 have hcat1 : ¬ 9223372036854775807 < 2 + l.length := by omega
 clear hb4;go_wp2_with fail;go_ret2;refine ⟨⟨l, ?_, HR.out.1, HR.out.2⟩, X1.out.alloc _⟩;rw [show (⟨#[120, 156]⟩ : ByteArray) = ⟨([120, 156] : List UInt8).toArray⟩ from rfl, ba_app, ba_app];unfold zipL;rw [HN.out, List.append_assoc];rfl
end Go.Proofs.YtnhbjgmfbcedaaaDoor
namespace Go.Proofs.YtnhbjgmfbcedaaaDoor
open Go.RowKit
/-- bits as a text -/
@[irreducible] def bs (L : List Bool) : ByteArray := ⟨(Bts.str L).toArray⟩
end Go.Proofs.YtnhbjgmfbcedaaaDoor
namespace Go.Proofs.YtnhbjgmfbcedaaaDoor
open Go.RowKit
end Go.Proofs.YtnhbjgmfbcedaaaDoor
namespace Go.Proofs.YtnhbjgmfbcedaaaDoor
open Go.RowKit
/-- a reader's cells: its bits, its place, its error's number; the others by a function -/
def qc (T : ByteArray) (a e : Nat) (x : Nat → Value) : Array Value := #[.string T, .int .i64 (a : Int), x 2, x 3, .int .i64 (e : Int), x 5, x 6, x 7, x 8, x 9, x 10, x 11]
theorem Bk.put1 {w : World} {Q a e : Nat} {T : ByteArray} {x : Nat → Value} (h : Bk w Q (qc T a e x)) (a' : Nat) : Bk (w.setCell ⟨Q, 1, none⟩ (.int .i64 (a' : Int))) Q (qc T a' e x) := by
  have := h.set_ 1 (.int .i64 (a' : Int)); simpa [qc] using this
end Go.Proofs.YtnhbjgmfbcedaaaDoor
