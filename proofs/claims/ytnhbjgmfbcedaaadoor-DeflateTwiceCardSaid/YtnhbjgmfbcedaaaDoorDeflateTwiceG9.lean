/-
  slices.SortStableFunc at packs: a stable sort.
  Lengths of a code by packages: packs in memory against their plain ones; what the lengths are as a code's.
  huff.Lengths: what lies in memory while its packages are merged.
-/
import Derived.Test.YtnhbjgmfbcedaaaDoorDeflateTwiceG1
import Derived.Test.YtnhbjgmfbcedaaaDoorDeflateTwiceG8
import Derived.Test.YtnhbjgmfbcedaaaDoorDeflateTwiceG7
set_option linter.unusedSimpArgs false
set_option linter.unusedVariables false
set_option maxRecDepth 100000
namespace Go.Proofs.YtnhbjgmfbcedaaaDoor
open Go.RowKit
def flS (Bs : List (List Pk)) : List Pk := (Bs.map (Srt.srt Pk.key)).flatten
theorem flS_append (As Bs : List (List Pk)) : flS (As ++ Bs) = flS As ++ flS Bs := by simp [flS]
theorem flS_cons (b : List Pk) (Bs : List (List Pk)) : flS (b :: Bs) = Srt.srt Pk.key b ++ flS Bs := by simp [flS]
theorem flS_nil : flS [] = [] := rfl
theorem flS_length (Bs : List (List Pk)) : (flS Bs).length = Bs.flatten.length := by
 induction Bs with
 | nil => rfl
 | cons b Bs ih => simp only [flS_cons, List.flatten_cons, List.length_append, Srt.srt_length, ih]
def Full (s : Nat) (Ds : List (List Pk)) : Prop := ∀ d ∈ Ds, d.length = s
theorem Full.length {s : Nat} : ∀ {Ds : List (List Pk)}, Full s Ds → Ds.flatten.length = s * Ds.length
 | [], _ => rfl
 | d :: Ds, h => by
  rw [List.flatten_cons, List.length_append, Full.length (fun x hx => h x (List.mem_cons_of_mem _ hx)), h d (List.mem_cons_self ..), List.length_cons, Nat.mul_add]; omega
theorem Full.snoc {s : Nat} {Ds : List (List Pk)} (h : Full s Ds) {d : List Pk} (hd : d.length = s) : Full s (Ds ++ [d]) := by
 intro x hx;rcases List.mem_append.1 hx with q | q
 ·exact h x q
 ·rw [List.mem_singleton.1 q]; exact hd
/-- blocks: all of one length but the last -/
def Good (s : Nat) : List (List Pk) → Prop
 | [] => True
 | [b] => 0 < b.length ∧ b.length ≤ s
 | b :: c :: r => b.length = s ∧ Good s (c :: r)
theorem Good.join {s : Nat} (hs : 0 < s) : ∀ {Ds Rs : List (List Pk)}, Full s Ds → Good s Rs → Good s (Ds ++ Rs)
 | [], Rs, _, h => h
 | [d], [], hd, _ => by have := hd d (by simp); exact ⟨by omega, by omega⟩
 | [d], r :: Rs, hd, h => ⟨hd d (by simp), h⟩
 | d :: e :: Ds, Rs, hd, h => ⟨hd d (by simp), Good.join hs (Ds := e :: Ds) (fun x hx => hd x (List.mem_cons_of_mem _ hx)) h⟩
theorem Good.tail {s : Nat} {b : List Pk} : ∀ {r : List (List Pk)}, Good s (b :: r) → Good s r
 | [], _ => trivial
 | _ :: _, h => h.2
theorem Good.pos {s : Nat} (hs : 0 < s) {b : List Pk} : ∀ {r : List (List Pk)}, Good s (b :: r) → 0 < b.length ∧ b.length ≤ s
 | [], h => h
 | _ :: _, h => by have := h.1; omega
/-- two blocks at the head of what is long enough -/
theorem Good.two {s : Nat} (_hs : 0 < s) {Rs : List (List Pk)} (h : Good s Rs) (hl : 2 * s ≤ Rs.flatten.length) : ∃ b c r, Rs = b :: c :: r ∧ b.length = s ∧ c.length = s ∧ Good s r := by
 match Rs, h with
 | [], _ => simp at hl; omega
 | [b], h => have := h.2; simp at hl; omega
 | [b, c], h => have h1 := h.1; have h2 := h.2.2; simp at hl; exact ⟨b, c, [], rfl, h1, by omega, trivial⟩
 | b :: c :: d :: r, h => exact ⟨b, c, d :: r, rfl, h.1, h.2.1, h.2.2⟩
theorem Good.rest {s : Nat} (_hs : 0 < s) {Rs : List (List Pk)} (h : Good s Rs) (h1 : s < Rs.flatten.length) (h2 : Rs.flatten.length < 2 * s) : ∃ b c, Rs = [b, c] ∧ b.length = s ∧ 0 < c.length ∧ c.length ≤ s := by
 match Rs, h with
 | [], _ => simp at h1
 | [b], h => have := h.2; simp at h1; omega
 | [b, c], h => exact ⟨b, c, rfl, h.1, h.2.1, h.2.2⟩
 | b :: c :: d :: r, h => have q1 := h.1; have q2 := h.2.1; simp at h2; omega
theorem Good.few {s : Nat} (hs : 0 < s) {Rs : List (List Pk)} (h : Good s Rs) (h1 : Rs.flatten.length ≤ s) : Rs = [] ∨ ∃ b, Rs = [b] ∧ 0 < b.length ∧ b.length ≤ s := by
 match Rs, h with
 | [], _ => exact .inl rfl
 | [b], h => exact .inr ⟨b, rfl, h⟩
 | b :: c :: r, h => have q1 := h.1; have q2 := Good.pos hs h.2; simp at h1; omega
set_option maxHeartbeats 8000000 in
theorem stable_any (B n cap : Nat) (l : List Pk) (w : World) (hl : l.length = n) (hn : n ≤ 100000) (h : PR w B l) :
  Calls Tryd.prog 123 #[.slice (some ⟨B, 0, none⟩) n cap, .int .i64 (n : Int), .func (.func 99) #[] #[]] w fun e w' => e = .returned (.tuple #[]) ∧ PR w' B (Srt.srt Pk.key l) ∧ One B w w' := by
 have HL := Lib.hid hl;have HP := Lib.hid h;clear hl h;go_enter Tryd.func123, Tryd.ntmps123
 go_wp2_with fail;go_loopw [7, 8] (fun c d wr => ∃ a b : Nat, c = .int .i64 a ∧ d = .int .i64 b ∧ b = a + 20 ∧ Hid (∃ Ds Y, l = Ds.flatten ++ Y ∧ Full 20 Ds ∧ Ds.flatten.length = a ∧ PR wr B (flS Ds ++ Y)) ∧ Hid (One B w wr)) (fun c d _ => n + 20 - (intOf d).toNat)
 case atStart => exact ⟨0, 20, rfl, rfl, rfl, Lib.hid ⟨[], l, rfl, by intro d hd; simp at hd, rfl, HP.out⟩, Lib.hid (One.refl _ _)⟩
 case round =>
  obtain ⟨a, b, rfl, rfl, hb, HD, HO⟩ := hrel;by_cases hbn : b ≤ n
  ·have t0 : decide ((b : Int) ≤ (n : Int)) = true := decide_eq_true (by omega);obtain ⟨Ds, Y, hlY, hF, ha, hp⟩ := HD.out;have hY : Y.length + a = n := by have := HL.out; rw [hlY] at this; simp at this ha; omega
   have hfl := flS_length Ds;have HC := Lib.hid (insertion_any B n cap (flS Ds) (Y.take 20) (Y.drop 20) a b wr (by simp; omega) (by omega) (by omega) (by simp; omega) (by simpa using hp));have HN := Lib.hid (show l = (Ds ++ [Y.take 20]).flatten ++ Y.drop 20 ∧ Full 20 (Ds ++ [Y.take 20]) ∧ (Ds ++ [Y.take 20]).flatten.length = b ∧ flS (Ds ++ [Y.take 20]) ++ Y.drop 20 = flS Ds ++ Srt.srt Pk.key (Y.take 20) ++ Y.drop 20 from ⟨by rw [hlY]; simp, hF.snoc (by simp; omega), by simp; simp at ha; omega, by rw [flS_append, flS_cons, flS_nil, List.append_nil]⟩);obtain ⟨b', hb'⟩ : ∃ b', b + 20 = b' := ⟨_, rfl⟩;have e1 : (b : Int) + 20 = (b' : Int) := by omega
   have w1 : ∀ v, v = (b' : Int) → IntKind.i64.wrap v = v := by intro v hv; rw [IntKind.wrap_i64]; omega
   have HB := Lib.hid hb';clear hlY hF ha hp hY hfl hb' HD hb;go_wp2_with fail;refine HC.out.mono ?_;rintro e w9 ⟨rfl, hr, ho⟩;have HR9 := Lib.hid hr;have HO9 := Lib.hid (HO.out.trans ho);clear hr ho;go_wp2_with fail;refine ⟨⟨b, b', rfl, rfl, HB.out.symm, Lib.hid ⟨_, _, HN.out.1, HN.out.2.1, HN.out.2.2.1, by rw [HN.out.2.2.2]; exact HR9.out⟩, HO9⟩, by have := HB.out; simp [intOf]; omega⟩
  ·have t0 : decide ((b : Int) ≤ (n : Int)) = false := decide_eq_false (by omega);obtain ⟨Ds, Y, hlY, hF, ha, hp⟩ := HD.out;have hY : Y.length + a = n := by have := HL.out; rw [hlY] at this; simp at this ha; omega
   have hfl := flS_length Ds;have HC := Lib.hid (insertion_any B n cap (flS Ds) Y [] a n wr (by simp; omega) (by omega) (by omega) (by simp; omega) (by simpa using hp));have HG := Lib.hid (show ∃ Bs, l = Bs.flatten ∧ Good 20 Bs ∧ flS Bs = flS Ds ++ Srt.srt Pk.key Y ++ [] from by
    by_cases hy : Y = []
    ·subst hy;exact ⟨Ds, by simpa using hlY, by simpa using Good.join (Rs := []) (by decide) hF trivial, by simp [Srt.srt]⟩
    ·have : 0 < Y.length := List.length_pos_iff.2 hy;exact ⟨Ds ++ [Y], by simpa using hlY, Good.join (by decide) hF ⟨this, by omega⟩, by rw [flS_append, flS_cons, flS_nil]; simp⟩)
   clear hlY hF ha hp hY hfl HD hb;go_wp2_with fail;refine HC.out.mono ?_;rintro e w9 ⟨rfl, hr, ho⟩;have HO9 := Lib.hid (HO.out.trans ho);obtain ⟨Bs0, hB0, hG0, hE0⟩ := HG.out;rw [← hE0] at hr;have HR9 := Lib.hid hr;have HG0 := Lib.hid (And.intro hB0 hG0);clear hr ho hB0 hG0 hE0 HG HC HO;go_wp2_with fail;go_loopw [6] (fun c wr => ∃ s : Nat, c = .int .i64 s ∧ 0 < s ∧ s ≤ 2 * n + 20 ∧ Hid (∃ Bs, l = Bs.flatten ∧ Good s Bs ∧ PR wr B (flS Bs)) ∧ Hid (One B w wr)) (fun c _ => n + 1 - (intOf c).toNat)
   case atStart => exact ⟨20, rfl, by decide, by omega, Lib.hid ⟨Bs0, HG0.out.1, HG0.out.2, HR9.out⟩, HO9⟩
   case round =>
    obtain ⟨s, rfl, hs0, hsn, HS, HO2⟩ := hrel;by_cases hlt : s < n
    ·have t1 : decide ((s : Int) < (n : Int)) = true := decide_eq_true (by omega);obtain ⟨s2, hs2⟩ : ∃ s2, 2 * s = s2 := ⟨_, rfl⟩;have e1 : (2 : Int) * (s : Int) = (s2 : Int) := by omega
     have e2 : (s : Int) * 2 = (s2 : Int) := by omega
     have w1 : ∀ v, v = (s2 : Int) → IntKind.i64.wrap v = v := by intro v hv; rw [IntKind.wrap_i64]; omega
     have HS2 := Lib.hid hs2;obtain ⟨Bs, hB1, hG1, hP1⟩ := HS.out;have HB1 := Lib.hid hB1;have HG1 := Lib.hid hG1;have HP1 := Lib.hid hP1;clear hB1 hG1 hP1 HS hs2;go_wp2_with fail;go_loopw [7, 8] (fun c d wr => ∃ a b : Nat, c = .int .i64 a ∧ d = .int .i64 b ∧ b = a + s2 ∧ a ≤ n ∧ Hid (∃ Ds Rs, l = Ds.flatten ++ Rs.flatten ∧ Full s2 Ds ∧ Good s Rs ∧ Ds.flatten.length = a ∧ PR wr B (flS Ds ++ flS Rs)) ∧ Hid (One B w wr)) (fun c d _ => n + s2 + 1 - (intOf d).toNat)
     case atStart => exact ⟨0, s2, rfl, rfl, by omega, by omega, Lib.hid ⟨[], Bs, by simpa using HB1.out, by intro d hd; simp at hd, HG1.out, rfl, by simpa [flS_nil] using HP1.out⟩, HO2⟩
     case round =>
      obtain ⟨a, b, rfl, rfl, hb, han, HD, HO3⟩ := hrel;by_cases hbn : b ≤ n
      ·have t2 : decide ((b : Int) ≤ (n : Int)) = true := decide_eq_true (by omega);obtain ⟨Ds, Rs, hlR, hF, hG, ha, hp⟩ := HD.out;have hY : Rs.flatten.length + a = n := by have := HL.out; rw [hlR] at this; simp only [List.length_append] at this; omega
       obtain ⟨x, y, r, rfl, hx, hy, hGr⟩ := hG.two hs0 (by have := HS2.out; omega);have hfl := flS_length Ds;have hfr := flS_length r;have hnr : x.length + (y.length + r.flatten.length) + a = n := by simpa using hY
       obtain ⟨m, hm⟩ : ∃ m, a + s = m := ⟨_, rfl⟩;have e3 : (a : Int) + (s : Int) = (m : Int) := by omega
       have w3 : ∀ v, v = (m : Int) → IntKind.i64.wrap v = v := by intro v hv; rw [IntKind.wrap_i64]; omega
       obtain ⟨b2, hb2⟩ : ∃ b2, b + s2 = b2 := ⟨_, rfl⟩;have e4 : (b : Int) + (s2 : Int) = (b2 : Int) := by omega
       have w4 : ∀ v, v = (b2 : Int) → IntKind.i64.wrap v = v := by intro v hv; rw [IntKind.wrap_i64]; omega
       have HC := Lib.hid (symMerge_all _ B n cap (flS Ds) (Srt.srt Pk.key x) (Srt.srt Pk.key y) (flS r) a m b wr rfl (by simp only [List.length_append, Srt.srt_length]; omega) (by omega) (by omega) (by rw [Srt.srt_length]; omega) (by rw [Srt.srt_length]; have := HS2.out; omega) (by rw [Srt.srt_length]; omega) (by rw [Srt.srt_length]; omega) (Srt.srt_up _) (Srt.srt_up _) (by rw [flS_cons, flS_cons] at hp; exact hp));have HN := Lib.hid (show l = (Ds ++ [x ++ y]).flatten ++ r.flatten ∧ Full s2 (Ds ++ [x ++ y]) ∧ (Ds ++ [x ++ y]).flatten.length = b ∧ flS (Ds ++ [x ++ y]) ++ flS r = flS Ds ++ (Srt.mrg Pk.key (Srt.srt Pk.key x) (Srt.srt Pk.key y) ++ flS r) from ⟨by rw [hlR]; simp, hF.snoc (by simp; have := HS2.out; omega), by rw [List.flatten_append, List.length_append, ha]; simp; have := HS2.out; omega, by rw [flS_append, flS_cons, flS_nil, Srt.srt_append]; simp⟩);have HGR := Lib.hid hGr;have HBB := Lib.hid hb2;clear hlR hF hG ha hp hY hfl hfr hnr hx hy hGr hm hb2 HD hb;go_wp2_with fail;refine HC.out.mono ?_;rintro e w9 ⟨rfl, hr, ho⟩;have HR9 := Lib.hid hr;have HO9 := Lib.hid (HO3.out.trans ho);clear hr ho;go_wp2_with fail;refine ⟨⟨b, b2, rfl, rfl, HBB.out.symm, hbn, Lib.hid ⟨_, r, HN.out.1, HN.out.2.1, HGR.out, HN.out.2.2.1, by rw [HN.out.2.2.2]; exact HR9.out⟩, HO9⟩, by have := HBB.out; have := HS2.out; simp [intOf]; omega⟩
      ·have t2 : decide ((b : Int) ≤ (n : Int)) = false := decide_eq_false (by omega);obtain ⟨Ds, Rs, hlR, hF, hG, ha, hp⟩ := HD.out;have hY : Rs.flatten.length + a = n := by have := HL.out; rw [hlR] at this; simp only [List.length_append] at this; omega
       obtain ⟨m, hm⟩ : ∃ m, a + s = m := ⟨_, rfl⟩;have e3 : (a : Int) + (s : Int) = (m : Int) := by omega
       have w3 : ∀ v, v = (m : Int) → IntKind.i64.wrap v = v := by intro v hv; rw [IntKind.wrap_i64]; omega
       by_cases hmn : m < n
       ·have t3 : decide ((m : Int) < (n : Int)) = true := decide_eq_true (by omega);obtain ⟨x, y, rfl, hx, hy0, hy⟩ := hG.rest hs0 (by omega) (by have := HS2.out; omega);have hfl := flS_length Ds;have hnr : x.length + y.length + a = n := by simpa using hY
        have HC := Lib.hid (symMerge_all _ B n cap (flS Ds) (Srt.srt Pk.key x) (Srt.srt Pk.key y) [] a m n wr rfl (by simp only [List.length_append, Srt.srt_length, List.length_nil]; omega) (by omega) (by omega) (by rw [Srt.srt_length]; omega) (by rw [Srt.srt_length]; omega) (by rw [Srt.srt_length]; omega) (by rw [Srt.srt_length]; omega) (Srt.srt_up _) (Srt.srt_up _) (by rw [flS_cons, flS_cons, flS_nil] at hp; exact hp));have HN := Lib.hid (show l = (Ds ++ [x ++ y]).flatten ∧ Good s2 (Ds ++ [x ++ y]) ∧ flS (Ds ++ [x ++ y]) = flS Ds ++ (Srt.mrg Pk.key (Srt.srt Pk.key x) (Srt.srt Pk.key y) ++ []) from ⟨by rw [hlR]; simp, Good.join (by omega) hF (show Good s2 [x ++ y] from ⟨by simp; omega, by simp; have := HS2.out; omega⟩), by rw [flS_append, flS_cons, flS_nil, Srt.srt_append]⟩);clear hlR hF hG ha hp hY hfl hnr hx hy hy0 hm HD hb;go_wp2_with fail;refine HC.out.mono ?_;rintro e w9 ⟨rfl, hr, ho⟩;have HR9 := Lib.hid hr;have HO9 := Lib.hid (HO3.out.trans ho);clear hr ho;go_wp2_with fail;refine ⟨⟨s2, rfl, by omega, by have := HS2.out; omega, Lib.hid ⟨_, HN.out.1, HN.out.2.1, by rw [HN.out.2.2]; exact HR9.out⟩, HO9⟩, by have := HS2.out; simp [intOf]; omega⟩
       ·have t3 : decide ((m : Int) < (n : Int)) = false := decide_eq_false (by omega);have HN := Lib.hid (show ∃ Bs, l = Bs.flatten ∧ Good s2 Bs ∧ PR wr B (flS Bs) from by
         rcases hG.few hs0 (by omega) with rfl | ⟨x, rfl, h1, h2⟩
         ·exact ⟨Ds, by simpa using hlR, by simpa using Good.join (Rs := []) (by omega) hF trivial, by simpa [flS_nil] using hp⟩
         ·exact ⟨Ds ++ [x], by simpa using hlR, Good.join (by omega) hF (show Good s2 [x] from ⟨h1, by have := HS2.out; omega⟩), by rw [flS_append]; exact hp⟩)
        clear hlR hF hG ha hp hY hm HD hb;go_wp2_with fail;refine ⟨⟨s2, rfl, by omega, by have := HS2.out; omega, HN, HO3⟩, by have := HS2.out; simp [intOf]; omega⟩
    ·have t1 : decide ((s : Int) < (n : Int)) = false := decide_eq_false (by omega);go_wp2_with fail;go_end0;refine ⟨rfl, ?_, HO2.out⟩;obtain ⟨Bs, hB1, hG1, hP1⟩ := HS.out;have hlen : Bs.flatten.length = n := by rw [← hB1]; exact HL.out
     rcases hG1.few hs0 (by omega) with rfl | ⟨x, rfl, _, _⟩
     ·simp at hB1; subst hB1; simpa [flS_nil, Srt.srt] using hP1
     ·simp at hB1; subst hB1; simpa [flS_cons, flS_nil] using hP1
theorem sort_any (B n cap : Nat) (l : List Pk) (w : World) (hl : l.length = n) (hn : n ≤ 100000) (h : PR w B l) :
  Calls Tryd.prog 98 #[.slice (some ⟨B, 0, none⟩) n cap, .func (.func 99) #[] #[]] w fun e w' => e = .returned (.tuple #[]) ∧ PR w' B (Srt.srt Pk.key l) ∧ One B w w' := by
 have HC := Lib.hid (stable_any B n cap l w hl hn h);clear hl h;go_enter Tryd.func98, Tryd.ntmps98
 go_wp2_with fail;refine HC.out.mono ?_;rintro e w9 ⟨rfl, hr, ho⟩;go_wp2_with fail;go_end0;exact ⟨rfl, hr, ho⟩
end Go.Proofs.YtnhbjgmfbcedaaaDoor
namespace Go.Proofs.YtnhbjgmfbcedaaaDoor
open Go.RowKit
def Pk.pc (p : Pk) : Pkg.Pc := ⟨p.c, p.s⟩
def pcs (l : List Pk) : List Pkg.Pc := l.map Pk.pc
theorem pcs_length (l : List Pk) : (pcs l).length = l.length := by simp [pcs]
theorem pcs_srt (l : List Pk) : pcs (Srt.srt Pk.key l) = Srt.srt Pkg.ky (pcs l) := (Srt.srt_map (k := Pk.key) Pk.pc (fun _ => rfl) l).symm
theorem pcs_append (l m : List Pk) : pcs (l ++ m) = pcs l ++ pcs m := by simp [pcs]
/-- a pack's symbols as they lie in memory -/
def SyAt (w : World) (p : Pk) : Prop := 0 < p.s.length ∧ ∃ g cs, p.a = some ⟨g, 0, none⟩ ∧ p.n = p.s.length ∧ w.heap[g]? = some (.cells cs 3 (0, 0)) ∧ ∀ j, j < p.s.length → cs[j]? = some (.int .i64 ((p.s.getD j 0 : Nat) : Int))
theorem SyAt.keeps {S : Nat → Prop} {w w' : World} {p : Pk} (h : SyAt w p) (hk : Keeps S w w') (hS : ∀ g, p.a = some ⟨g, 0, none⟩ → ¬ S g) : SyAt w' p := by
 obtain ⟨h0, g, cs, h1, h2, h3, h4⟩ := h;exact ⟨h0, g, cs, h1, h2, (hk.block g (lt_of_block h3) (hS g h1)).trans h3, h4⟩
theorem SyAt.ext {w w' : World} {p : Pk} (h : SyAt w p) (hE : Ext w w') : SyAt w' p := h.keeps (S := fun _ => False) hE.keeps (fun _ _ => id)
theorem SyAt.one {B : Nat} {w w' : World} {p : Pk} {l : List Pk} (h : SyAt w p) (hP : PR w B l) (hO : One B w w') : SyAt w' p := by
 refine h.keeps hO (fun g hg e => ?_);obtain ⟨_, g', cs, h1, _, h3, _⟩ := h;obtain ⟨r, hr⟩ := hP;rw [hg] at h1;have e1 : g = g' := by injection h1 with h1; injection h1
 have e2 : g = B := e;rw [← e1, e2, hr] at h3;injection h3 with h3;injection h3 with _ h3;exact absurd h3 (by decide)
theorem SyAt.ir {w : World} {p : Pk} (h : SyAt w p) : Ir w (.slice p.a p.n p.k) (p.s.map (fun i : Nat => (i : Int))) := by
 obtain ⟨h0, g, cs, h1, h2, h3, h4⟩ := h;refine ⟨by simpa using h0, g, p.k, by rw [h1, h2]; simp, fun j hj => ?_⟩;have hj2 : j < p.s.length := by simpa using hj
 rw [cell_of_row w g j cs _ _ h3, h4 j hj2];simp [i64V, hj2]
theorem SyAt.cell {w : World} {p : Pk} (h : SyAt w p) {j : Nat} (hj : j < p.s.length) : ∃ g, p.a = some ⟨g, 0, none⟩ ∧ w.cell? ⟨g, j, none⟩ = some (.int .i64 ((p.s.getD j 0 : Nat) : Int)) := by
 obtain ⟨h0, g, cs, h1, h2, h3, h4⟩ := h;exact ⟨g, h1, by rw [cell_of_row w g j cs _ _ h3, h4 j hj]⟩
theorem prs_get : ∀ (l : List Pkg.Pc) (k : Nat) (a b : Pkg.Pc), l[2 * k]? = some a → l[2 * k + 1]? = some b → (Pkg.prs l)[k]? = some ⟨a.c + b.c, a.s ++ b.s⟩
 | [], k, a, b, h, _ => by simp at h
 | [x], k, a, b, _, h => by
  rw [List.getElem?_eq_none (by simp)] at h; cases h
 | x :: y :: l, 0, a, b, ha, hb => by
  simp at ha hb;subst ha hb;rfl
 | x :: y :: l, k + 1, a, b, ha, hb => by
  rw [show 2 * (k + 1) = 2 * k + 1 + 1 by omega] at ha hb;exact prs_get l k a b ha hb
/-- the numbers of a row of counts -/
def cntN (f : Nat → Int) (i : Nat) : Nat := (f i).toNat
/-- the lengths as a row -/
def lenF (f : Nat → Int) (len most : Nat) : Nat → Int := fun i => ((Pkg.lens (cntN f) len most i : Nat) : Int)
theorem Pkg.sumTo_mul (F : Nat → Nat) (c : Nat) : ∀ n, Pkg.sumTo (fun j => F j * c) n = Pkg.sumTo F n * c
 | 0 => by simp [Pkg.sumTo]
 | n + 1 => by simp only [Pkg.sumTo, Pkg.sumTo_mul F c n, Nat.add_mul]
theorem Pkg.sum_ones : ∀ l : List Nat, (l.map fun _ => 1).sum = l.length
 | [] => rfl
 | a :: l => by rw [List.map_cons, List.sum_cons, Pkg.sum_ones l, List.length_cons]; omega
theorem many_sum (f : Nat → Int) (n : Nat) : ∀ len, many f n len = Pkg.sumTo (fun j => if f j = n then 1 else 0) len
 | 0 => rfl
 | len + 1 => by simp only [many, Pkg.sumTo, many_sum f n len]
theorem kraft_sums (f : Nat → Int) (len : Nat) (h0 : ∀ j, j < len → 0 ≤ f j) : ∀ n, n ≤ 15 → kraft f len n = Pkg.sumTo (fun j => if 1 ≤ f j ∧ f j ≤ n then 2 ^ (15 - (f j).toNat) else 0) len
 | 0, _ => by
  show 0 = _;rw [Pkg.sumTo_congr (g := fun _ => 0) (fun j hj => by rw [if_neg]; rintro ⟨h1, h2⟩; omega), Pkg.sumTo_const]; simp
 | n + 1, hn => by
  have ih := kraft_sums f len h0 n (by omega);simp only [kraft];rw [ih, many_sum];have e : Pkg.sumTo (fun j => if f j = ((n + 1 : Nat) : Int) then 1 else 0) len * 2 ^ (14 - n) = Pkg.sumTo (fun j => if f j = ((n + 1 : Nat) : Int) then 2 ^ (14 - n) else 0) len := by
   clear ih hn h0;induction len with
   | zero => simp [Pkg.sumTo]
   | succ len ih =>
    simp only [Pkg.sumTo, Nat.add_mul, ih];congr 1
    split <;> simp
  rw [e, ← Pkg.sumTo_add];apply Pkg.sumTo_congr;intro j hj;have := h0 j hj;by_cases c1 : f j = ((n + 1 : Nat) : Int)
  ·rw [if_neg (by omega), if_pos c1, if_pos (by omega), c1, show 15 - (((n + 1 : Nat) : Int)).toNat = 14 - n by omega, Nat.zero_add]
  ·rw [if_neg c1];by_cases c2 : 1 ≤ f j ∧ f j ≤ n
   ·rw [if_pos c2, if_pos (by omega)]; omega
   ·rw [if_neg c2, if_neg (by omega)]
/-- the lengths are those of a right code -/
theorem lens_good (f : Nat → Int) (len most : Nat) (h0 : ∀ j, j < len → 0 ≤ f j) (hl : len ≤ 300) (hm1 : 1 ≤ most) (hm2 : most ≤ 15) (hn : (Pkg.used (cntN f) len).length ≤ 2 ^ most) :
  (∀ j, j < len → 0 ≤ lenF f len most j ∧ lenF f len most j ≤ most ∧ (0 < lenF f len most j ↔ 0 < f j)) ∧ inBounds (lenF f len most) len ∧ complete (lenF f len most) len := by
 have key : ∀ j, j < len → 0 ≤ lenF f len most j ∧ lenF f len most j ≤ most ∧ (0 < lenF f len most j ↔ 0 < f j) := by
  intro j hj;have hmem : j ∈ Pkg.used (cntN f) len ↔ 0 < f j := by
   rw [Pkg.mem_used];unfold cntN;have := h0 j hj;constructor
   ·rintro ⟨_, q⟩; omega
   ·intro q; exact ⟨hj, by omega⟩
  unfold lenF;by_cases h2 : (Pkg.used (cntN f) len).length < 2
  ·unfold Pkg.lens;rw [if_pos h2];by_cases hm : j ∈ Pkg.used (cntN f) len
   ·rw [if_pos hm]; have := hmem.1 hm; simp; omega
   ·rw [if_neg hm]; have : ¬ 0 < f j := fun q => hm (hmem.2 q); simp; omega
  ·obtain ⟨a1, a2, _, _⟩ := Pkg.lens_many (cnt := cntN f) (len := len) (most := most) (by omega) hm1 hn;by_cases hm : j ∈ Pkg.used (cntN f) len
   ·have := a1 j hm; have := hmem.1 hm; omega
   ·have := a2 j hm; have : ¬ 0 < f j := fun q => hm (hmem.2 q); omega
 have hb : inBounds (lenF f len most) len := ⟨hl, fun j hj => by have := key j hj; omega⟩;refine ⟨key, hb, ?_⟩;have hmem : ∀ j, j < len → (j ∈ Pkg.used (cntN f) len ↔ 0 < lenF f len most j) := by
  intro j hj;rw [(key j hj).2.2, Pkg.mem_used];unfold cntN;have := h0 j hj;constructor
  ·rintro ⟨_, q⟩; omega
  ·intro q; exact ⟨hj, by omega⟩
 by_cases h2 : (Pkg.used (cntN f) len).length < 2
 ·-- none, or one
  have hsum : ∀ g : Nat → Nat, Pkg.sumTo (fun i => if 0 < cntN f i then g i else 0) len = ((Pkg.used (cntN f) len).map g).sum := fun g => (Pkg.sum_used g (cntN f) len).symm;have hpos : ∀ j, j < len → (0 < cntN f j ↔ 0 < lenF f len most j) := fun j hj => by
   rw [← hmem j hj, Pkg.mem_used]; exact ⟨fun q => ⟨hj, q⟩, fun q => q.2⟩
  have hone : ∀ j, j < len → 0 < lenF f len most j → lenF f len most j = 1 := by
   intro j hj hp;unfold lenF Pkg.lens;rw [if_pos h2, if_pos ((hmem j hj).2 hp)]; rfl
  have e1 : many (lenF f len most) 1 len = (Pkg.used (cntN f) len).length := by
   rw [many_sum, Pkg.sumTo_congr (g := fun i => if 0 < cntN f i then 1 else 0), hsum (fun _ => 1)]
   ·exact Pkg.sum_ones _
   ·intro j hj;have q := hpos j hj;by_cases c : 0 < cntN f j
    ·have q1 : lenF f len most j = ((1 : Nat) : Int) := hone j hj (q.1 c);rw [if_pos c, if_pos q1]
    ·rw [if_neg c, if_neg]; intro e; exact c (q.2 (by rw [e]; decide))
  have e0 : many (lenF f len most) 0 len + (Pkg.used (cntN f) len).length = len := by
   rw [← e1, many_sum, many_sum, ← Pkg.sumTo_add, Pkg.sumTo_congr (g := fun _ => 1), Pkg.sumTo_const]
   ·omega
   ·intro j hj;have q := key j hj;by_cases c : 0 < lenF f len most j
    ·have := hone j hj c;rw [if_neg (by omega), if_pos (by omega)]
    ·rw [if_pos (by omega), if_neg (by omega)]
  rcases Nat.eq_zero_or_pos (Pkg.used (cntN f) len).length with c | c
  ·exact .inl (by omega)
  ·exact .inr (.inl ⟨by omega, by omega⟩)
 ·refine .inr (.inr ?_);obtain ⟨a1, a2, a3, _⟩ := Pkg.lens_many (cnt := cntN f) (len := len) (most := most) (by omega) hm1 hn;rw [kraft_sums _ _ (fun j hj => (key j hj).1) 15 (Nat.le_refl _)];have e : Pkg.sumTo (fun j => if 1 ≤ lenF f len most j ∧ lenF f len most j ≤ ((15 : Nat) : Int) then 2 ^ (15 - (lenF f len most j).toNat) else 0) len = Pkg.sumTo (fun s => if 0 < cntN f s then 2 ^ (most - Pkg.lens (cntN f) len most s) else 0) len * 2 ^ (15 - most) := by
   have hj : ∀ j, j < len → (if 1 ≤ lenF f len most j ∧ lenF f len most j ≤ ((15 : Nat) : Int) then 2 ^ (15 - (lenF f len most j).toNat) else 0) = (if 0 < cntN f j then 2 ^ (most - Pkg.lens (cntN f) len most j) else 0) * 2 ^ (15 - most) := by
    intro j hj;have q := key j hj;have m := hmem j hj;rw [Pkg.mem_used] at m;by_cases c : 0 < cntN f j
    ·have q2 := m.1 ⟨hj, c⟩;rw [if_pos c, if_pos (by omega), ← Nat.pow_add];congr 1
     unfold lenF at q q2 ⊢;simp only [Int.toNat_natCast];omega
    ·have q2 : ¬ 0 < lenF f len most j := fun h => c (m.2 h).2;rw [if_neg c, if_neg (by omega), Nat.zero_mul]
   rw [Pkg.sumTo_congr hj, Pkg.sumTo_mul]
  rw [e, a3, ← Nat.pow_add, show most + (15 - most) = 15 by omega]
end Go.Proofs.YtnhbjgmfbcedaaaDoor
namespace Go.Proofs.YtnhbjgmfbcedaaaDoor
open Go.RowKit
theorem Cs.keeps {S : Nat → Prop} {w w' : World} {B n : Nat} {k : IntKind} {g : Nat → Int} (h : Cs w B n k g) (hk : Keeps S w w') (hS : ¬ S B) : Cs w' B n k g := fun i hi => by
  have hb := World.block_lt_of_cell? w _ (h i hi).1
  exact ⟨(hk.cell (p := ⟨B, i, none⟩) hb hS).trans (h i hi).1, (hk.frozen (p := ⟨B, i, none⟩) hb hS).trans (h i hi).2⟩
/-- a row of packs that may be read: where its symbols lie, and how great it is -/
def Sy (w : World) (go len d : Nat) (R : List Pk) : Prop := ∀ p ∈ R, (SyAt w p ∧ p.a ≠ some ⟨go, 0, none⟩) ∧ p.c ≤ 1048576 * 2 ^ d ∧ p.s.length ≤ 2 ^ d ∧ ∀ s ∈ p.s, s < len
theorem Sy.up {w : World} {go len d : Nat} {R : List Pk} (h : Sy w go len d R) : Sy w go len (d + 1) R := fun p hp => by
  obtain ⟨h1, h2, h3, h4⟩ := h p hp
  have e : 2 ^ (d + 1) = 2 * 2 ^ d := by rw [Nat.pow_succ, Nat.mul_comm]
  exact ⟨h1, by omega, by omega, h4⟩
theorem Sy.le {w : World} {go len : Nat} {R : List Pk} (h : Sy w go len 0 R) : ∀ d, Sy w go len d R
  | 0 => h
  | d + 1 => (Sy.le h d).up
theorem Sy.app {w : World} {go len d : Nat} {R Q : List Pk} (h : Sy w go len d R) (k : Sy w go len d Q) : Sy w go len d (R ++ Q) := fun p hp => by
  rcases List.mem_append.1 hp with q | q
  · exact h p q
  · exact k p q
theorem Sy.ext {w w' : World} {go len d : Nat} {R : List Pk} (h : Sy w go len d R) (hE : Ext w w') : Sy w' go len d R := fun p hp => ⟨⟨(h p hp).1.1.ext hE, (h p hp).1.2⟩, (h p hp).2⟩
theorem Sy.one {w w' : World} {go len d B : Nat} {R l : List Pk} (h : Sy w go len d R) (hP : PR w B l) (hO : One B w w') : Sy w' go len d R := fun p hp => ⟨⟨(h p hp).1.1.one hP hO, (h p hp).1.2⟩, (h p hp).2⟩
theorem Sy.perm {w : World} {go len d : Nat} {R Q : List Pk} (h : Sy w go len d R) (hp : Q.Perm R) : Sy w go len d Q := fun p hq => h p (hp.mem_iff.1 hq)
theorem Sy.out {w w' : World} {go len d : Nat} {R : List Pk} (h : Sy w go len d R) (hO : One go w w') : Sy w' go len d R := fun p hp => ⟨⟨(h p hp).1.1.keeps hO (fun g hg e => (h p hp).1.2 (by rw [hg]; congr)), (h p hp).1.2⟩, (h p hp).2⟩
/-- a pack's symbols lie in no row of packs -/
theorem SyAt.apart {w : World} {p : Pk} (h : SyAt w p) {base n : Nat} {v : Value} {xs : List Value} (ho : w.ownsRow base 134 2 v n xs) {g : Nat} (hg : p.a = some ⟨g, 0, none⟩) : ¬ v.ownBlock = some g := by
  intro e
  obtain ⟨_, g', cs, h1, _, h3, _⟩ := h
  rw [hg] at h1
  have e1 : g = g' := by injection h1 with h1; injection h1
  rcases ho.2 with ⟨hv, _⟩ | ⟨g2, cap, cur, hv, _, hh, _⟩
  · rw [hv] at e; cases e
  · rw [hv] at e
    have e2 : g2 = g := by simpa [Value.ownBlock] using e
    rw [← e1, ← e2, hh] at h3
    injection h3 with h3
    injection h3 with _ h3
    exact absurd h3 (by decide)
theorem SyAt.grown {w w' : World} {p : Pk} (h : SyAt w p) {base n : Nat} {v : Value} {xs : List Value} (ho : w.ownsRow base 134 2 v n xs) (hg : w.grownBy w' v.ownBlock) : SyAt w' p :=
  h.keeps (Keeps.grown hg) (fun _ hq e => h.apart ho hq e)
theorem Sy.grown {w w' : World} {go len d base n : Nat} {R : List Pk} {v : Value} {xs : List Value} (h : Sy w go len d R) (ho : w.ownsRow base 134 2 v n xs) (hg : w.grownBy w' v.ownBlock) : Sy w' go len d R := fun p hp => ⟨⟨(h p hp).1.1.grown ho hg, (h p hp).1.2⟩, (h p hp).2⟩
theorem Sy.size {w : World} {go len d : Nat} {R : List Pk} (h : Sy w go len d R) : ∀ q, (Pkg.syms ((pcs R).take q)).length ≤ q * 2 ^ d
  | 0 => by simp [Pkg.syms]
  | q + 1 => by
    have ih := Sy.size h q
    rw [Nat.add_mul]
    by_cases hq : q < R.length
    · have e : (pcs R).take (q + 1) = (pcs R).take q ++ [R[q].pc] := by
        rw [List.take_succ_eq_append_getElem (by rw [pcs_length]; exact hq)]
        simp [pcs]
      rw [e, Pkg.syms_append, List.length_append]
      have := (h R[q] (List.getElem_mem hq)).2.2.1
      have e2 : (Pkg.syms [R[q].pc]).length = R[q].s.length := by simp [Pkg.syms, Pk.pc]
      omega
    · rw [List.take_of_length_le (by rw [pcs_length]; omega)]
      rw [List.take_of_length_le (by rw [pcs_length]; omega)] at ih
      omega
/-- what lies in memory while the lengths are counted: so many packs, and so many symbols of the next one, are told -/
structure Cnt (w w' : World) (go len d : Nat) (R : List Pk) (g : Nat) (q : Nat) (t : List Nat) : Prop where
  rp : PR w' g R
  sy : Sy w' go len d R
  ext : Ext w w'
  oc : Cs w' go len .i64 (fun s => (((Pkg.syms ((pcs R).take q)).count s + t.count s : Nat) : Int))
  lt : go < w'.heap.size
  ge : w.heap.size ≤ go
  ne : g ≠ go
theorem Cnt.step {w w' w2 : World} {go len d : Nat} {R : List Pk} {g q : Nat} {t : List Nat} (h : Cnt w w' go len d R g q t) (hE : Ext w' w2) : Cnt w w2 go len d R g q t :=
  ⟨h.rp.ext hE, h.sy.ext hE, h.ext.trans hE, h.oc.keeps (S := fun _ => False) hE.keeps id, by have := h.lt; have := hE.size; omega, h.ge, h.ne⟩
theorem Cnt.more {w w' : World} {go len d : Nat} {R : List Pk} {g q : Nat} {t : List Nat} (h : Cnt w w' go len d R g q t) {s : Nat} (hs : s < len) : Cnt w (w'.setCell ⟨go, s, none⟩ (.int .i64 (((Pkg.syms ((pcs R).take q)).count s + t.count s + 1 : Nat) : Int))) go len d R g q (t ++ [s]) := by
  have hO : One go w' (w'.setCell ⟨go, s, none⟩ (.int .i64 (((Pkg.syms ((pcs R).take q)).count s + t.count s + 1 : Nat) : Int))) := Keeps.setCell (S := fun k => k = go) (p := ⟨go, s, none⟩) (Keeps.refl _ _) (.inl rfl) _
  refine ⟨h.rp.keeps hO h.ne, h.sy.out hO, Below.setCell h.ext h.ge _, ?_, by have := h.lt; simpa using this, h.ge, h.ne⟩
  refine h.oc.put s _ _ hs (fun i _ => ?_)
  rw [List.count_append]
  by_cases e : i = s
  · subst e; rw [if_pos rfl]; simp; omega
  · rw [if_neg e]
    have : [s].count i = 0 := by rw [List.count_eq_zero]; simpa using e
    rw [this]; rfl
theorem Cnt.next {w w' : World} {go len d : Nat} {R : List Pk} {g q : Nat} {p : Pk} (h : Cnt w w' go len d R g q p.s) (hp : R[q]? = some p) : Cnt w w' go len d R g (q + 1) [] := by
  refine ⟨h.rp, h.sy, h.ext, h.oc.congr (fun s _ => ?_), h.lt, h.ge, h.ne⟩
  obtain ⟨hq, e⟩ := List.getElem?_eq_some_iff.1 hp
  have e2 : (pcs R).take (q + 1) = (pcs R).take q ++ [p.pc] := by
    rw [List.take_succ_eq_append_getElem (by rw [pcs_length]; exact hq)]
    simp [pcs, e]
  rw [e2, Pkg.syms_append, List.count_append]
  simp [Pkg.syms, Pk.pc]
structure LSt (w w' : World) (go gc len d : Nat) (L R : List Pk) (g : Nat) : Prop where
  ext : Ext w w'
  cp : PR w' gc L
  rp : PR w' g R
  syL : Sy w' go len 0 L
  syR : Sy w' go len d R
  oc : Cs w' go len .i64 (fun _ => 0)
  base : w.heap.size ≤ gc
  o1 : gc < go
  o2 : go < g
theorem LSt.step {w w' w2 : World} {go gc len d : Nat} {L R : List Pk} {g : Nat} (h : LSt w w' go gc len d L R g) (hE : Ext w' w2) : LSt w w2 go gc len d L R g :=
  ⟨h.ext.trans hE, h.cp.ext hE, h.rp.ext hE, h.syL.ext hE, h.syR.ext hE, h.oc.keeps (S := fun _ => False) hE.keeps id, h.base, h.o1, h.o2⟩
theorem LSt.turn {w w' w2 : World} {go gc len d : Nat} {L R R2 : List Pk} {g : Nat} (h : LSt w w' go gc len d L R g) (hO : One g w' w2) (hP : PR w2 g R2) (hp : R2.Perm R) : LSt w w2 go gc len d L R2 g :=
  ⟨by
    have := h.ext.size; have := h.base; have := h.o1; have := h.o2
    exact Below.trans h.ext (hO.below (B := w.heap.size) (by omega) (fun k hk e => by omega)),
   h.cp.keeps hO (by have := h.o1; have := h.o2; omega), hP, h.syL.one h.rp hO, (h.syR.one h.rp hO).perm hp, h.oc.keeps hO (by have := h.o2; omega), h.base, h.o1, h.o2⟩
theorem LSt.renew {w w' w2 : World} {go gc len d d' : Nat} {L R R2 : List Pk} {g g2 : Nat} (h : LSt w w' go gc len d L R g) (hE : Ext w' w2) (hP : PR w2 g2 R2) (hS : Sy w2 go len d' R2) (ho : go < g2) : LSt w w2 go gc len d' L R2 g2 :=
  ⟨h.ext.trans hE, h.cp.ext hE, hP, h.syL.ext hE, hS, h.oc.keeps (S := fun _ => False) hE.keeps id, h.base, h.o1, ho⟩
theorem LSt.grown {w w' w2 : World} {go gc len d b0 n : Nat} {L R : List Pk} {g : Nat} {v : Value} {xs : List Value} (h : LSt w w' go gc len d L R g) (_hb : b0 ≤ w'.heap.size) (hgb : g < b0) (ho : w'.ownsRow b0 134 2 v n xs) (hG : w'.grownBy w2 v.ownBlock) : LSt w w2 go gc len d L R g := by
  have hk := Keeps.grown hG
  have hlt : ∀ k, v.ownBlock = some k → b0 ≤ k := fun k hk => (ho.lt k hk).1
  have := h.ext.size; have := h.base; have := h.o1; have := h.o2
  exact ⟨Below.trans h.ext (hk.below (B := w.heap.size) (by omega) (fun k hk e => by have := hlt k e; omega)), h.cp.keeps hk (fun e => by have := hlt _ e; omega), h.rp.keeps hk (fun e => by have := hlt _ e; omega), h.syL.grown ho hG, h.syR.grown ho hG, h.oc.keeps hk (fun e => by have := hlt _ e; omega), h.base, h.o1, h.o2⟩
theorem syAt_own {w : World} {base sg n k : Nat} (c : Nat) {l : List Nat} (h : w.ownsRow base 3 1 (.slice (some ⟨sg, 0, none⟩) n k) n (i64V (l.map fun i : Nat => (i : Int)))) (h0 : 0 < l.length) (hn : n = l.length) : SyAt w ⟨c, some ⟨sg, 0, none⟩, l.length, k, l⟩ ∧ base ≤ sg := by
  rcases h.2 with ⟨hv, _⟩ | ⟨g, cap, cur, hv, hg, hh, hc, hm, hs, ht⟩
  · cases hv
  · injection hv with hv1 _ _
    injection hv1 with hv1
    injection hv1 with hv1 _ _
    subst hv1
    refine ⟨⟨h0, sg, cur, rfl, rfl, hh, fun j hj => ?_⟩, hg⟩
    have hj' : j < l.length := hj
    have e : cur.toList[j]? = (i64V (l.map fun i : Nat => (i : Int)))[j]? := by
      rw [← ht, List.getElem?_take_of_lt (by omega)]
    rw [← Array.getElem?_toList, e]
    simp [i64V, hj']
theorem pcs_get {R : List Pk} {i : Nat} {x : Pk} (h : R[i]? = some x) : (pcs R)[i]? = some x.pc := by simp [pcs, h]
/-- a pair that was made -/
theorem Sy.pair {w : World} {go len d : Nat} {R : List Pk} (h : Sy w go len d R) {x y : Pk} (hx : x ∈ R) (hy : y ∈ R) {sg k : Nat} (hz : SyAt w ⟨x.c + y.c, some ⟨sg, 0, none⟩, (x.s ++ y.s).length, k, x.s ++ y.s⟩) (hg : sg ≠ go) : Sy w go len (d + 1) [⟨x.c + y.c, some ⟨sg, 0, none⟩, (x.s ++ y.s).length, k, x.s ++ y.s⟩] := fun p hp => by
  rw [List.mem_singleton.1 hp]
  obtain ⟨_, a2, a3, a4⟩ := h x hx
  obtain ⟨_, b2, b3, b4⟩ := h y hy
  have e : 2 ^ (d + 1) = 2 * 2 ^ d := by rw [Nat.pow_succ, Nat.mul_comm]
  refine ⟨⟨hz, fun q => by injection q with q; injection q with q; exact hg q⟩, ?_, ?_, ?_⟩
  · show x.c + y.c ≤ _; omega
  · show (x.s ++ y.s).length ≤ _; rw [List.length_append]; omega
  · intro s hs
    rcases List.mem_append.1 hs with q | q
    · exact a4 s q
    · exact b4 s q
end Go.Proofs.YtnhbjgmfbcedaaaDoor
