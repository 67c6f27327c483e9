/- What lzw.Pack holds while it goes. -/
import Derived.Test.YtdeiolagnheihaaDoorLzwA
namespace Go.Proofs.YtdeiolagnheihaaDoor
open Go.RowKit
set_option maxRecDepth 100000
structure KSt (w wr : World) (B : Nat) (v : Value) (Bits : List Bool) (s : ByteArray) (c wd size : Nat) (L : List ByteArray) (mp : Nat) (g : Nat → Nat → Option Nat) : Prop where
  pb : PB wr B v (Bts.val Bits) Bits.length (.int .i64 (wd : Int)) (.int .i64 (size : Int)) (.int .i64 ((c + 2 + L.length : Nat) : Int)) (.map (some mp))
  mm : MK wr mp L.length g
  gk : Lz.Gok c L g
  wl : Lz.Wl c s L
  vm : v.ownBlock ≠ some mp
  mB : mp ≠ B
  old : Ext w wr
  hB : w.heap.size ≤ B
  hm : w.heap.size ≤ mp
  hv : ∀ k, v.ownBlock = some k → w.heap.size ≤ k
  sz : c + 2 + L.length ≤ 2 ^ size
  hi : size ≤ 12
theorem KSt.ext {w wr w' : World} {B c wd size mp : Nat} {v : Value} {Bits : List Bool} {s : ByteArray} {L : List ByteArray} {g : Nat → Nat → Option Nat} (h : KSt w wr B v Bits s c wd size L mp g) (hE : Ext wr w') : KSt w w' B v Bits s c wd size L mp g :=
  ⟨h.pb.ext hE, h.mm.ext hE, h.gk, h.wl, h.vm, h.mB, h.old.trans hE, h.hB, h.hm, h.hv, h.sz, h.hi⟩
theorem pow_ne {size : Nat} (hs : size ≤ 12) : 2 ^ size ≠ 4095 := by
  rcases (show size = 0 ∨ size = 1 ∨ size = 2 ∨ size = 3 ∨ size = 4 ∨ size = 5 ∨ size = 6 ∨ size = 7 ∨ size = 8 ∨ size = 9 ∨ size = 10 ∨ size = 11 ∨ size = 12 by omega) with h | h | h | h | h | h | h | h | h | h | h | h | h <;> subst h <;> decide
theorem val_low_lt {Bits : List Bool} {k size : Nat} (hk : k < 2 ^ size) : Bts.val (Bits ++ Bts.low k size) = Bts.val Bits + k * 2 ^ Bits.length ∧ (Bits ++ Bts.low k size).length = Bits.length + size := by
  rw [Bts.val_append, Bts.val_low, Nat.mod_eq_of_lt hk, List.length_append, Bts.low_length]; exact ⟨rfl, rfl⟩
theorem below_of {w wr w' : World} {B : Nat} {v v' : Value} {M : Nat → Prop} (hold : Ext w wr) (hB : w.heap.size ≤ B) (hv : ∀ k, v.ownBlock = some k → w.heap.size ≤ k) (hM : ∀ k, M k → w.heap.size ≤ k) (hS : PStep wr w' B v v' M) : Ext w w' :=
  Below.trans hold (hS.keeps.below hold.size (fun k hk e => by rcases e with e | e | e
                                                               · omega
                                                               · have := hv k e; omega
                                                               · have := hM k e; omega))
theorem KSt.code {w wr w' : World} {B c wd size mp k : Nat} {v v' : Value} {Bits : List Bool} {s : ByteArray} {L : List ByteArray} {g : Nat → Nat → Option Nat} (h : KSt w wr B v Bits s c wd size L mp g) (hk : k < 2 ^ size)
    (hP : PB w' B v' (Bts.val Bits + k * 2 ^ Bits.length) (Bits.length + size) (.int .i64 (wd : Int)) (.int .i64 (size : Int)) (.int .i64 ((c + 2 + L.length : Nat) : Int)) (.map (some mp))) (hS : PStep wr w' B v v' (fun _ => False)) :
    KSt w w' B v' (Bits ++ Bts.low k size) s c wd size L mp g := by
  obtain ⟨e1, e2⟩ := val_low_lt (Bits := Bits) hk
  have hl := h.mm.lt
  have hz := h.old.size
  refine ⟨by rw [e1, e2]; exact hP, h.mm.keeps hS.keeps (fun e : mp = B ∨ v.ownBlock = some mp ∨ False => e.elim h.mB (fun e => e.elim h.vm id)), h.gk, h.wl, fun e => ?_, h.mB, below_of h.old h.hB h.hv (fun _ q => q.elim) hS, h.hB, h.hm, fun k hk => ?_, h.sz, h.hi⟩
  · rcases hS.new mp e with q | q
    · exact h.vm q
    · omega
  · rcases hS.new k hk with q | q
    · exact h.hv k q
    · omega
theorem KSt.more {w wr w' : World} {B c wd size mp a m k : Nat} {v : Value} {Bits : List Bool} {s : ByteArray} {L : List ByteArray} {g : Nat → Nat → Option Nat} (h : KSt w wr B v Bits s c wd size L mp g) (hc : c ≤ 256) (hg : Lz.Gr c L s a m k) (hb : (s.data.toList.getD a 0).toNat < c) (hm : a + m < s.size) (hn : s.extract a (a + m + 1) ∉ L) (hf : c + 2 + L.length + 1 ≠ 4096)
    (hP : PB w' B v (Bts.val Bits) Bits.length (.int .i64 (wd : Int)) (.int .i64 ((nsz (c + 2 + L.length) size : Nat) : Int)) (.int .i64 (((c + 2 + L.length : Nat) : Int) + 1)) (.map (some mp)))
    (hM : MK w' mp (L.length + 1) (updK g k (s.data.toList.getD (a + m) 0).toNat (c + 2 + L.length))) (hS : PStep wr w' B v v (fun i => i = mp)) :
    KSt w w' B v Bits s c wd (Lz.grow c L size) (L ++ [s.extract a (a + m + 1)]) mp (updK g k (s.data.toList.getD (a + m) 0).toNat (c + 2 + L.length)) := by
  have hlen := h.wl.len
  have hsz := h.sz
  have hhi := h.hi
  have eg : Lz.grow c L size = nsz (c + 2 + L.length) size := rfl
  have hl : (L ++ [s.extract a (a + m + 1)]).length = L.length + 1 := by simp
  refine ⟨?_, by rw [hl]; exact hM, Lz.Gok.upd hc h.gk h.wl (hg.tx hb) (UInt8.toNat_lt _) (Lz.ext_snoc s a m hm) hn, h.wl.add hg hm hn (by omega), h.vm, h.mB, below_of h.old h.hB h.hv (fun k q => by rw [q]; exact h.hm) hS, h.hB, h.hm, h.hv, ?_, ?_⟩
  · rw [eg, hl, show ((c + 2 + (L.length + 1) : Nat) : Int) = ((c + 2 + L.length : Nat) : Int) + 1 by omega]; exact hP
  · rw [hl]; unfold Lz.grow
    split
    · rename_i q; rw [Nat.pow_succ]; omega
    · rename_i q
      rcases Nat.lt_or_ge size 12 with q2 | q2
      · have : c + 2 + L.length ≠ 2 ^ size := fun e => q ⟨e, q2⟩
        omega
      · obtain rfl : size = 12 := by omega
        show _ ≤ 4096
        omega
  · unfold Lz.grow; split <;> omega
theorem KSt.full {w wr w' : World} {B c wd size mp mp' : Nat} {v v' : Value} {Bits : List Bool} {s : ByteArray} {L : List ByteArray} {g : Nat → Nat → Option Nat} (h : KSt w wr B v Bits s c wd size L mp g) (hc : 2 ^ wd = c) (h2 : 2 ≤ wd) (h8 : wd ≤ 8)
    (hP : PB w' B v' (Bts.val Bits + 2 ^ wd * 2 ^ Bits.length) (Bits.length + size) (.int .i64 (wd : Int)) (.int .i64 ((wd : Int) + 1)) (.int .i64 (((2 ^ wd : Nat) : Int) + 2)) (.map (some mp')))
    (hM : MK w' mp' 0 (fun _ _ => none)) (hmB : mp' ≠ B) (hvm : v'.ownBlock ≠ some mp') (hm : wr.heap.size ≤ mp') (hS : PStep wr w' B v v' (fun i => i = mp)) :
    KSt w w' B v' (Bits ++ Bts.low c size) s c wd (wd + 1) [] mp' (fun _ _ => none) := by
  obtain ⟨hcl, hch⟩ := pow_bds hc h2 h8
  have hsz := h.sz
  obtain ⟨e1, e2⟩ := val_low_lt (Bits := Bits) (k := c) (size := size) (by omega)
  have hz := h.old.size
  rw [hc] at hP
  refine ⟨?_, hM, Lz.Gok.nil c, Lz.Wl.nil (by omega), hvm, hmB, below_of h.old h.hB h.hv (fun k q => by rw [q]; exact h.hm) hS, h.hB, by omega, fun k hk => ?_, ?_, by omega⟩
  · rw [e1, e2]; exact hP
  · rcases hS.new k hk with q | q
    · exact h.hv k q
    · omega
  · rw [Nat.pow_succ, hc]; simp; omega
/-- the packer is new, and its list is cleared -/
theorem KSt.fresh {w w0 w' : World} {B c wd mp' : Nat} {v' : Value} {s : ByteArray} (hold : Ext w w0) (hB : w.heap.size ≤ B) (hc : 2 ^ wd = c) (h2 : 2 ≤ wd) (h8 : wd ≤ 8)
    (hP : PB w' B v' (0 + 2 ^ wd * 2 ^ 0) (0 + (wd + 1)) (.int .i64 (wd : Int)) (.int .i64 ((wd : Int) + 1)) (.int .i64 (((2 ^ wd : Nat) : Int) + 2)) (.map (some mp')))
    (hM : MK w' mp' 0 (fun _ _ => none)) (hmB : mp' ≠ B) (hvm : v'.ownBlock ≠ some mp') (hm : w0.heap.size ≤ mp') (hS : PStep w0 w' B (.slice none 0 0) v' (fun _ => False)) :
    KSt w w' B v' (Bts.low c (wd + 1)) s c wd (wd + 1) [] mp' (fun _ _ => none) := by
  obtain ⟨hcl, hch⟩ := pow_bds hc h2 h8
  have hpow : c < 2 ^ (wd + 1) := by rw [Nat.pow_succ, hc]; omega
  obtain ⟨e1, e2⟩ := val_low_lt (Bits := []) (k := c) (size := wd + 1) hpow
  have hz := hold.size
  rw [hc] at hP
  refine ⟨?_, hM, Lz.Gok.nil c, Lz.Wl.nil (by omega), hvm, hmB, below_of hold hB (fun k q => by cases q) (fun _ q => q.elim) hS, hB, by omega, fun k hk => ?_, ?_, by omega⟩
  · rw [List.nil_append] at e1 e2; rw [e1, e2]; exact hP
  · rcases hS.new k hk with q | q
    · cases q
    · omega
  · rw [Nat.pow_succ, hc]; simp; omega
end Go.Proofs.YtdeiolagnheihaaDoor
