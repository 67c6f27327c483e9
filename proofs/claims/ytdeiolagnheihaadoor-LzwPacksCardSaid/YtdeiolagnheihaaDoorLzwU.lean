/- The words of an unpacker of LZW in memory. No function of the program is named. -/
import Derived.Test.YtdeiolagnheihaaDoorLzwS
namespace Go.Proofs.YtdeiolagnheihaaDoor
open Go.RowKit
set_option maxRecDepth 100000
theorem strinf : (Tryd.prog.info? 9).map (fun i => (i.zero, i.size, i.bytes)) = some (some (.string ⟨#[]⟩), 1, 16) := by kernel_rfl
def rngV (i : Nat) : List Value := (List.range i).map fun j => Value.string (Lz.one j)
theorem rngV_succ (i : Nat) : rngV (i + 1) = rngV i ++ [.string (Lz.one i)] := by simp [rngV, List.range_succ]
theorem rngV_length (i : Nat) : (rngV i).length = i := by simp [rngV]
def wv (c : Nat) (L : List ByteArray) : List Value := rngV c ++ [.string ⟨#[]⟩, .string ⟨#[]⟩] ++ L.map Value.string
theorem wv_nil (c : Nat) : wv c [] = rngV c ++ [.string ⟨#[]⟩, .string ⟨#[]⟩] := by simp [wv]
theorem wv_push (c : Nat) (L : List ByteArray) (x : ByteArray) : wv c (L ++ [x]) = wv c L ++ [.string x] := by simp [wv]
theorem wv_length (c : Nat) (L : List ByteArray) : (wv c L).length = c + 2 + L.length := by simp [wv, rngV_length]; omega
theorem wv_low {c n : Nat} (L : List ByteArray) (h : n < c) : (wv c L)[n]? = some (.string (Lz.one n)) := by
  unfold wv
  rw [List.append_assoc, List.getElem?_append_left (by rw [rngV_length]; exact h)]
  simp [rngV, h]
theorem wv_high {c n : Nat} {L : List ByteArray} {x : ByteArray} (h : c + 2 ≤ n) (hx : L[n - (c + 2)]? = some x) : (wv c L)[n]? = some (.string x) := by
  unfold wv
  have e : (rngV c ++ [Value.string ⟨#[]⟩, .string ⟨#[]⟩]).length = c + 2 := by simp [rngV_length]
  rw [List.getElem?_append_right (by rw [e]; exact h), e, List.getElem?_map, hx]; rfl
structure UAt (w : World) (U : Nat) (v : Value) (n : Nat) (xs : List Value) (x y : Value) : Prop where
  bk : Bk w U #[v, x, y]
  row : w.ownsRow 0 9 1 v n xs
  ne : v.ownBlock ≠ some U
structure UStep (w w' : World) (U : Nat) (v v' : Value) : Prop where
  keeps : Keeps (fun k => k = U ∨ v.ownBlock = some k) w w'
  new : ∀ k, v'.ownBlock = some k → v.ownBlock = some k ∨ w.heap.size ≤ k
theorem UStep.refl (w : World) (U : Nat) (v : Value) : UStep w w U v v := ⟨Keeps.refl _ _, fun _ h => .inl h⟩
theorem UStep.trans {a b c : World} {U : Nat} {u v x : Value} (h : UStep a b U u v) (k : UStep b c U v x) : UStep a c U u x := by
  refine ⟨h.keeps.trans k.keeps ?_, ?_⟩
  · intro i hi q
    rcases q with q | q
    · exact .inl q
    · rcases h.new i q with r | r
      · exact .inr r
      · omega
  · intro i q
    rcases k.new i q with r | r
    · exact h.new i r
    · have := h.keeps.size; exact .inr (by omega)
theorem UAt.ext {w w' : World} {U n : Nat} {v x y : Value} {xs : List Value} (h : UAt w U v n xs x y) (hE : Ext w w') : UAt w' U v n xs x y :=
  ⟨h.bk.ext hE, ownsRow_kept h.row (hE.keeps (S := fun _ => False)) (fun _ _ q => q), h.ne⟩
theorem UStep.ext {w w' : World} {U : Nat} {v : Value} (hE : Ext w w') : UStep w w' U v v := ⟨hE.keeps, fun _ h => .inl h⟩
theorem UAt.push {w0 W1 w1 : World} {U n m g cap : Nat} {v x y : Value} {xs ys : List Value} (h : UAt w0 U v n xs x y) (hE : Ext w0 W1) (hg : W1.grownBy w1 v.ownBlock)
    (ho : w1.ownsRow 0 9 1 (.slice (some ⟨g, 0, none⟩) m cap) m ys) (hat : v.ownBlock = some g ∨ g = W1.heap.size) :
    Bk w1 U #[v, x, y] ∧ UAt (w1.setCell ⟨U, 0, none⟩ (.slice (some ⟨g, 0, none⟩) m cap)) U (.slice (some ⟨g, 0, none⟩) m cap) m ys x y ∧ UStep w0 (w1.setCell ⟨U, 0, none⟩ (.slice (some ⟨g, 0, none⟩) m cap)) U v (.slice (some ⟨g, 0, none⟩) m cap) := by
  have hU := h.bk.lt
  have hK : Keeps (fun k => v.ownBlock = some k) w0 w1 := (hE.keeps (S := fun k => v.ownBlock = some k)).trans (Keeps.grown hg) (fun _ _ q => q)
  have hB : Bk w1 U #[v, x, y] := h.bk.keeps hK h.ne
  have hs := hE.size
  have hgU : g ≠ U := by
    rcases hat with q | q
    · intro e; subst e; exact h.ne q
    · omega
  refine ⟨hB, ⟨hB.set_ 0 _, ownsRow_setCell_other ho (by intro e; exact hgU (Option.some.inj e)) _, fun e => hgU (Option.some.inj (show some g = some U from e))⟩, ⟨?_, ?_⟩⟩
  · exact (hK.mono (fun _ _ q => .inr q)).setCell (.inl (.inl rfl)) _
  · intro k hk
    have e : g = k := Option.some.inj hk
    rcases hat with q | q
    · exact .inl (e ▸ q)
    · exact .inr (by omega)
theorem UAt.set1 {w : World} {U n : Nat} {v x y : Value} {xs : List Value} (h : UAt w U v n xs x y) (x' : Value) : UAt (w.setCell ⟨U, 1, none⟩ x') U v n xs x' y ∧ UStep w (w.setCell ⟨U, 1, none⟩ x') U v v :=
  ⟨⟨h.bk.set_ 1 _, ownsRow_setCell_other h.row h.ne _, h.ne⟩, ⟨(Keeps.refl _ _).setCell (.inl (.inl rfl)) _, fun _ q => .inl q⟩⟩
theorem UAt.set2 {w : World} {U n : Nat} {v x y : Value} {xs : List Value} (h : UAt w U v n xs x y) (y' : Value) : UAt (w.setCell ⟨U, 2, none⟩ y') U v n xs x y' ∧ UStep w (w.setCell ⟨U, 2, none⟩ y') U v v :=
  ⟨⟨h.bk.set_ 2 _, ownsRow_setCell_other h.row h.ne _, h.ne⟩, ⟨(Keeps.refl _ _).setCell (.inl (.inl rfl)) _, fun _ q => .inl q⟩⟩
theorem UAt.set0 {w : World} {U : Nat} {v x y : Value} (h : Bk w U #[v, x, y]) : UAt (w.setCell ⟨U, 0, none⟩ (.slice none 0 0)) U (.slice none 0 0) 0 [] x y ∧ Keeps (fun k => k = U) w (w.setCell ⟨U, 0, none⟩ (.slice none 0 0)) :=
  ⟨⟨h.set_ 0 _, World.ownsRow_nil _ _ _ _, fun e => by cases e⟩, (Keeps.refl (fun k => k = U) w).setCell (.inl rfl) _⟩
theorem UAt.same {w : World} {U n m : Nat} {v x y : Value} {xs : List Value} (h : UAt w U v n xs x y) : UAt (w.drewN m) U v n xs x y := ⟨h.bk, h.row, h.ne⟩
theorem UStep.same {w w' : World} {U m : Nat} {v v' : Value} (h : UStep w w' U v v') : UStep w (w'.drewN m) U v v' := ⟨h.keeps.drewN m, h.new⟩
theorem one_conv {w : World} {b i : Nat} (hi : i < 256) (hB : Bk w b #[.int .u8 (i : Int)]) : (convert 23 9 (.slice (some ⟨b, 0, none⟩) 1 1)).run Tryd.prog w = .ok (.string (Lz.one i)) w := by
  refine run_convert_bytes_back (P := Tryd.prog) w 23 9 5 ⟨b, 0, none⟩ 1 [UInt8.ofNat i] Tryd.underlying23 Tryd.underlying5 Tryd.underlying9 (fun j hj => ?_)
  obtain rfl : j = 0 := by simpa using hj
  rw [add_plain, hB.cell 0]
  have e : (UInt8.ofNat i).toNat = i := by rw [UInt8.toNat_ofNat']; omega
  simp [e]
end Go.Proofs.YtdeiolagnheihaaDoor
