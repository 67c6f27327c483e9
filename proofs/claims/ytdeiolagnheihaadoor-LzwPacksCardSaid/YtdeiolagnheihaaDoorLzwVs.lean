/- What the document's LzwOf holds while it goes. -/
import Derived.Test.YtdeiolagnheihaaDoorLzwG
import Derived.Test.YtdeiolagnheihaaDoorLzwT
import Derived.Test.YtdeiolagnheihaaDoorMark
import Derived.Test.YtdeiolagnheihaaDoorRefBits
import Derived.Test.YtdeiolagnheihaaDoorAnyH
namespace Go.Proofs.YtdeiolagnheihaaDoor
open Go.RowKit
set_option maxRecDepth 100000
theorem listinfo : (Tryd.prog.info? 100).map (fun i => (i.zero, i.size, i.bytes)) = some (some (.agg #[.string ⟨#[]⟩, .int .i64 0]), 2, 24) := by kernel_rfl
/-- the list's cells -/
def lsV (c : Nat) (L : List ByteArray) : Nat → List Value
  | 0 => []
  | n + 1 => lsV c L n ++ [.string (L.getD n ByteArray.empty), .int .i64 ((c + 2 + n : Nat) : Int)]
theorem lsV_length (c : Nat) (L : List ByteArray) (n : Nat) : (lsV c L n).length = n * 2 := by induction n with | zero => rfl | succ n ih => simp [lsV, ih]; omega
theorem lsV_congr (c : Nat) (L L' : List ByteArray) (n : Nat) (h : ∀ i, i < n → L.getD i ByteArray.empty = L'.getD i ByteArray.empty) : lsV c L n = lsV c L' n := by
  induction n with
  | zero => rfl
  | succ n ih => simp only [lsV]; rw [ih (fun i hi => h i (by omega)), h n (by omega)]
theorem lsV_push (c : Nat) (L : List ByteArray) (x : ByteArray) : lsV c (L ++ [x]) (L.length + 1) = lsV c L L.length ++ [.string x, .int .i64 ((c + 2 + L.length : Nat) : Int)] := by
  simp only [lsV]
  rw [lsV_congr c (L ++ [x]) L L.length (fun i hi => by rw [List.getD, List.getD, List.getElem?_append_left hi])]
  simp
theorem lsV_get (c : Nat) (L : List ByteArray) : ∀ (n i : Nat), i < n → (lsV c L n)[i * 2]? = some (.string (L.getD i ByteArray.empty)) ∧ (lsV c L n)[i * 2 + 1]? = some (.int .i64 ((c + 2 + i : Nat) : Int)) := by
  intro n
  induction n with
  | zero => intro i h; omega
  | succ n ih =>
    intro i h
    simp only [lsV]
    by_cases hi : i < n
    · obtain ⟨h1, h2⟩ := ih i hi
      rw [List.getElem?_append_left (by rw [lsV_length]; omega), List.getElem?_append_left (by rw [lsV_length]; omega)]
      exact ⟨h1, h2⟩
    · obtain rfl : i = n := by omega
      rw [List.getElem?_append_right (by rw [lsV_length]; omega), List.getElem?_append_right (by rw [lsV_length]; omega), lsV_length]
      refine ⟨?_, ?_⟩
      · rw [Nat.sub_self]; rfl
      · rw [show i * 2 + 1 - i * 2 = 1 by omega]; rfl
structure VSt (w wr : World) (bv lv : Value) (Bits : List Bool) (s : ByteArray) (c size : Nat) (L : List ByteArray) : Prop where
  rb : MRow wr w.heap.size bv (Bts.str Bits)
  rl : wr.ownsRow w.heap.size 100 2 lv L.length (lsV c L L.length)
  old : Ext w wr
  sep : ∀ k, bv.ownBlock = some k → lv.ownBlock ≠ some k
  wl : Lz.Wl c s L
  sz : c + 2 + L.length ≤ 2 ^ size
  hi : size ≤ 12
  big : ∀ x ∈ L, x.size ≤ s.size
theorem VSt.keeps {S : Nat → Prop} {w wr w' : World} {bv lv : Value} {Bits : List Bool} {s : ByteArray} {c size : Nat} {L : List ByteArray} (h : VSt w wr bv lv Bits s c size L) (hk : Keeps S wr w') (hb : ∀ k, bv.ownBlock = some k → ¬ S k) (hl : ∀ k, lv.ownBlock = some k → ¬ S k) (hE : Ext w w') : VSt w w' bv lv Bits s c size L :=
  ⟨h.rb.keeps hk hb, ownsRow_kept h.rl hk hl, hE, h.sep, h.wl, h.sz, h.hi, h.big⟩
theorem VSt.ext {w wr w' : World} {bv lv : Value} {Bits : List Bool} {s : ByteArray} {c size : Nat} {L : List ByteArray} (h : VSt w wr bv lv Bits s c size L) (hE : Ext wr w') : VSt w w' bv lv Bits s c size L :=
  h.keeps (S := fun _ => False) hE.keeps (fun _ _ => id) (fun _ _ => id) (h.old.trans hE)
/-- bits have been laid behind -/
theorem VSt.bits {w wr w' : World} {bv bv' lv : Value} {Bits M : List Bool} {s : ByteArray} {c size : Nat} {L : List ByteArray} (h : VSt w wr bv lv Bits s c size L) (hr : MRow w' w.heap.size bv' (Bts.str Bits ++ (bs M).data.toList)) (hg : wr.grownBy w' bv.ownBlock) (hat : bv'.ownBlock = bv.ownBlock ∨ bv'.ownBlock = some wr.heap.size) :
    VSt w w' bv' lv (Bits ++ M) s c size L := by
  have hK := Keeps.grown hg
  refine ⟨by rw [bs_list, ← Bts.str_append] at hr; exact hr, ownsRow_kept h.rl hK (fun k hk e => h.sep k e hk), Below.trans h.old (hK.below h.old.size (fun k hk e => by have := (h.rb.own e).1; omega)), fun k hk e => ?_, h.wl, h.sz, h.hi, h.big⟩
  rcases hat with q | q
  · exact h.sep k (q ▸ hk) e
  · rw [q] at hk; injection hk with hk
    have := (h.rl.lt k e).2; omega
/-- a word more -/
theorem VSt.word {w wr W1 w' : World} {bv lv lv' : Value} {Bits : List Bool} {s : ByteArray} {c size size' : Nat} {L : List ByteArray} {x : ByteArray} (h : VSt w wr bv lv Bits s c size L) (hE : Ext wr W1) (hg : W1.grownBy w' lv.ownBlock) (hat : lv'.ownBlock = lv.ownBlock ∨ lv'.ownBlock = some W1.heap.size)
    (hr : w'.ownsRow w.heap.size 100 2 lv' (L.length + 1) (lsV c L L.length ++ [.string x, .int .i64 ((c + 2 + L.length : Nat) : Int)])) (hwl : Lz.Wl c s (L ++ [x])) (hsz : c + 2 + (L.length + 1) ≤ 2 ^ size') (hhi : size' ≤ 12) (hxb : x.size ≤ s.size) :
    VSt w w' bv lv' Bits s c size' (L ++ [x]) := by
  have h1 := h.ext hE
  have hK := Keeps.grown hg
  have hl : (L ++ [x]).length = L.length + 1 := by simp
  refine ⟨h1.rb.keeps hK (fun k hk e => h.sep k hk e), by rw [hl, lsV_push]; exact hr, Below.trans h1.old (hK.below h1.old.size (fun k hk e => by have := (h1.rl.lt k e).1; omega)), fun k hk e => ?_, hwl, by rw [hl]; exact hsz, hhi, fun z hz => by
    rcases List.mem_append.1 hz with q | q
    · exact h.big z q
    · rw [List.mem_singleton.1 q]; exact hxb⟩
  rcases hat with q | q
  · exact h.sep k hk (q ▸ e)
  · rw [q] at e; injection e with e
    have := (h.rb.own hk).2
    have := hE.size; omega
theorem VSt.clear {w wr : World} {bv lv : Value} {Bits : List Bool} {s : ByteArray} {c size wd : Nat} {L : List ByteArray} (h : VSt w wr bv lv Bits s c size L) (hc : 2 ^ wd = c) (h2 : 2 ≤ wd) (h8 : wd ≤ 8) (hcl : 4 ≤ c ∧ c ≤ 256) : VSt w wr bv (.slice none 0 0) Bits s c (wd + 1) [] :=
  ⟨h.rb, World.ownsRow_nil _ _ _ _, h.old, (fun _ _ e => by cases e), Lz.Wl.nil (by omega), by rw [Nat.pow_succ, hc]; simp; omega, by omega, by simp⟩
theorem VSt.size' {w wr : World} {bv lv : Value} {Bits : List Bool} {s : ByteArray} {c size : Nat} {L : List ByteArray} (h : VSt w wr bv lv Bits s c size L) {size' : Nat} (h1 : size ≤ size') (h2 : size' ≤ 12) : VSt w wr bv lv Bits s c size' L :=
  ⟨h.rb, h.rl, h.old, h.sep, h.wl, Nat.le_trans h.sz (Nat.pow_le_pow_right (by decide) h1), h2, h.big⟩
theorem VSt.word0 {w wr W1 w' : World} {bv lv : Value} {Bits : List Bool} {s : ByteArray} {c size wd : Nat} {L : List ByteArray} (h : VSt w wr bv lv Bits s c size L) (hE : Ext wr W1) (hg : W1.grownBy w' lv.ownBlock) (hc : 2 ^ wd = c) (h2 : 2 ≤ wd) (h8 : wd ≤ 8) (hcl : 4 ≤ c ∧ c ≤ 256) :
    VSt w w' bv (.slice none 0 0) Bits s c (wd + 1) [] := by
  have h1 := h.ext hE
  have hK := Keeps.grown hg
  exact ⟨h1.rb.keeps hK (fun k hk e => h.sep k hk e), World.ownsRow_nil _ _ _ _, Below.trans h1.old (hK.below h1.old.size (fun k hk e => by have := (h1.rl.lt k e).1; omega)), (fun _ _ e => by cases e), Lz.Wl.nil (by omega), by rw [Nat.pow_succ, hc]; simp; omega, by omega, by simp⟩
theorem bst_le (c : Nat) (L : List ByteArray) (s : ByteArray) (a : Nat) (h : a < s.size) (i : Nat) : a + (Lz.bst c L s a i).1 ≤ s.size := by
  induction i with
  | zero => show a + 1 ≤ _; omega
  | succ i ih => simp only [Lz.bst]; split
                 · rename_i q; exact q.2.1
                 · exact ih
theorem bst_code (c : Nat) (L : List ByteArray) (s : ByteArray) (a : Nat) (h : (s.data.toList.getD a 0).toNat < c) (i : Nat) : (Lz.bst c L s a i).2 < c + 2 + i := by
  induction i with
  | zero => show (s.data.toList.getD a 0).toNat < _; omega
  | succ i ih => simp only [Lz.bst]; split
                 · show c + 2 + i < _; omega
                 · omega
theorem bst_yes {c : Nat} {L : List ByteArray} {s x : ByteArray} {a i m k : Nat} (h : Lz.bst c L s a i = (m, k)) (hx : L.getD i ByteArray.empty = x) (h1 : m < x.size) (h2 : a + x.size ≤ s.size) (h3 : s.extract a (a + x.size) = x) : Lz.bst c L s a (i + 1) = (x.size, c + 2 + i) := by
  simp only [Lz.bst]; rw [h, hx, if_pos ⟨h1, h2, h3⟩]
theorem bst_no {c : Nat} {L : List ByteArray} {s x : ByteArray} {a i m k : Nat} (h : Lz.bst c L s a i = (m, k)) (hx : L.getD i ByteArray.empty = x) (hn : ¬ (m < x.size ∧ a + x.size ≤ s.size ∧ s.extract a (a + x.size) = x)) : Lz.bst c L s a (i + 1) = (m, k) := by
  simp only [Lz.bst]; rw [h, hx, if_neg hn]
theorem best_gr {c : Nat} {L : List ByteArray} {s : ByteArray} {a m k : Nat} (hw : Lz.Wl c s L) (ha : a < s.size) (hb : Lz.best c L s a = (m, k)) : Lz.Gr c L s a m k ∧ (a + m = s.size ∨ s.extract a (a + m + 1) ∉ L) := by
  obtain ⟨m', k', g, hs⟩ := Lz.greed c L s a _ 1 _ (Nat.le_refl _) (Lz.Gr.one ha)
  rw [Lz.best_of hw g hs] at hb
  injection hb with h1 h2
  subst h1 h2
  exact ⟨g, hs⟩
theorem set2_all {w wr : World} {T : Nat} {x y x' y' : Value} (hE : Ext w wr) (hT : w.heap.size ≤ T) (hB : Bk wr T #[x, y]) : Ext w ((wr.setCell ⟨T, 0, none⟩ x').setCell ⟨T, 1, none⟩ y') ∧ Bk ((wr.setCell ⟨T, 0, none⟩ x').setCell ⟨T, 1, none⟩ y') T #[x', y'] ∧ Keeps (fun k => k = T) wr ((wr.setCell ⟨T, 0, none⟩ x').setCell ⟨T, 1, none⟩ y') :=
  ⟨Below.setCell (Below.setCell hE (by exact hT) _) (by exact hT) _, (hB.set_ 0 x').set_ 1 y', ((Keeps.refl (fun k => k = T) wr).setCell (.inl rfl) _).setCell (.inl rfl) _⟩
end Go.Proofs.YtdeiolagnheihaaDoor
