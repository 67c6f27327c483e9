/-
  The law's holds.
  The document's PutText, DropText.
  The document's PutText.
  Rows of changes as they lie in memory; the law's light.
  The law's change: a model of a store.
  The law's do: a change of a store.
  What the law's do leaves: a store that was changed, one that was not, one that is lost.
-/
import Derived.Test.YtheidjagcafgnaaGreatDoorStoreFailsG1
import Derived.Test.YtheidjagcafgnaaGreatDoorStoreFailsG7
set_option linter.unusedSimpArgs false
set_option linter.unusedVariables false
set_option maxRecDepth 100000
namespace Go.Proofs.YtheidjagcafgnaaGreatDoor
open Go.RowKit
theorem nmV_str (L : List Ck) : nmV L = strL (L.map (·.k)) := by unfold nmV strL; rw [List.map_map]; rfl
theorem own_litS {w : World} {base : Nat} {e : TypeId} {size : Nat} {v : Value} {n : Nat} {xs : List Value} (h : w.ownsRow base e size v n xs) : ∃ x c, v = .slice x n c := by
 rcases ownsRow_slice h with ⟨rfl, rfl⟩ | ⟨g, cap, rfl⟩
 ·exact ⟨none, 0, rfl⟩
 ·exact ⟨_, cap, rfl⟩
def HoldP (T L : List Ck) (e : Ending) : Prop := (T = L ∧ e = .returned (.bool true)) ∨ (T ≠ L ∧ e = .returned (.bool false))
theorem hold_eq {T L : List Ck} (so : Tx.Sorted L) (h : ∀ (j : Nat) (c : Ck), T[j]? = some c → Tx.fnd L c.k = some c.d) (hk : T.map (·.k) = L.map (·.k)) : T = L := by
 refine List.ext_getElem? (fun j => ?_);have e : (T.map (·.k))[j]? = (L.map (·.k))[j]? := by rw [hk]
 rw [List.getElem?_map, List.getElem?_map] at e;cases hT : T[j]? with
 | none =>
  cases hL : L[j]? with
  | none => rfl
  | some y => rw [hT, hL] at e; cases e
 | some x =>
  cases hL : L[j]? with
  | none => rw [hT, hL] at e; cases e
  | some y =>
   rw [hT, hL] at e;have ek : x.k = y.k := by injection e
   have h1 := h j x hT;have h2 := Tx.fnd_of_mem so (List.mem_of_getElem? hL);rw [ek, h2] at h1;injection h1 with h1;obtain ⟨xk, xd⟩ := x;obtain ⟨yk, yd⟩ := y;simp only at ek h1;rw [ek, h1]
theorem strinf2 : (Tryz.prog.info? 9).map (fun i => (i.zero, i.size, i.bytes)) = some (some (.string ⟨#[]⟩), 1, 16) := by kernel_rfl
theorem str_push {w0 wr w1 : World} {v v' : Value} {L : List ByteArray} {n : Nat} {k : ByteArray} {T : TypeId} (hE : Ext w0 wr) (hR : wr.ownsRow w0.heap.size T 1 v n (strL L)) (hg : wr.grownBy w1 v.ownBlock)
  (ho : w1.ownsRow w0.heap.size T 1 v' (n + 1) (strL L ++ [.string k])) : w1.ownsRow w0.heap.size T 1 v' (n + 1) (strL (L ++ [k])) ∧ Ext w0 w1 := by
 refine ⟨?_, Below.trans hE ((Keeps.grown hg).below hE.size (fun k hk e => by have := (hR.lt k e).1; omega))⟩;have e : strL (L ++ [k]) = strL L ++ [.string k] := by simp [strL]
 rw [e]; exact ho
theorem cell_str_new (w : World) (T : TypeId) (k : ByteArray) : ∀ (j : Nat) (u : Value), [Value.string k][j]? = some u → (w.alloc (.cells #[.string k] T)).cell? ((⟨w.heap.size, 0, none⟩ : Addr).add j) = some u := by
 intro j u hj;rw [add_plain];match j, hj with
 | 0, hj => simp at hj; subst hj; simp
theorem str_one (k : ByteArray) : ∀ u ∈ [Value.string k], u.oneCell' = true := by intro u hu; rw [List.mem_singleton.1 hu]; rfl
set_option linter.unusedSimpArgs false in
set_option maxHeartbeats 8000000 in
theorem holds_any (x : Option Addr) (cap : Nat) (T : List Ck) (w0 w : World) (S : Nat → Prop) (s d mb n cn : Nat) (m : Dk.DM) (b : Nat) (L : List Ck) (sy hf : Nat) (lost : Bool) (E : Nat → Addr) (hE : Errs w0 E)
  (h : LS w0 w S s d mb n cn m b L sy hf lost) (hx : Cks w x T) (hn : T.length ≤ 100000) (hz : ∀ c ∈ T, c.k.size ≤ maxLen) (hL : L.length ≤ 100000) :
  Calls Tryz.prog 18 #[.pointer (some ⟨s, 0, none⟩), .slice x T.length cap] w fun e w' => HoldP T L e ∧ Ext w w' := by
 have HE := Lib.hid hE;have HS := Lib.hid h;have HX := Lib.hid hx;have HZ := Lib.hid (And.intro hz hL);obtain ⟨N, hN⟩ : ∃ N, T.length = N := ⟨_, rfl⟩;have HN := Lib.hid hN;rw [hN] at hn ⊢;clear hE h hx hz hL hN;obtain ⟨i0, hi0, hz0, hz1, hz2⟩ := info_parts strinf2;go_enter Tryz.func18, Tryz.ntmps18
 go_wp2_with fail;go_loopw [5, 6, 7, 8] (fun v cc t e wr => ∃ (i : Nat), i ≤ N ∧ cc = .int .i64 (i : Int) ∧ Hid (Ext w wr) ∧ Hid (wr.ownsRow w.heap.size 9 1 v i (strL ((T.map (·.k)).take i))) ∧ Hid (∀ (j : Nat) (c : Ck), j < i → T[j]? = some c → Tx.fnd L c.k = some c.d)) (fun _ cc _ _ _ => N - (intOf cc).toNat)
 case atStart => exact ⟨0, by omega, rfl, Lib.hid (Ext.refl w), Lib.hid (World.ownsRow_nil _ _ _ _), Lib.hid (fun j c hj => by omega)⟩
 case round =>
  obtain ⟨i, hi, rfl, HXr, HR, HJ⟩ := hrel;obtain ⟨vx, vc, rfl⟩ := own_litS HR.out;by_cases hlt : i < N
  ·as_aux_lemma =>
    have ht : (i : Int) < (N : Int) := by omega
    obtain ⟨a, rfl⟩ := HX.out.isSome (i := i) (by rw [HN.out]; exact hlt);obtain ⟨c, hc⟩ : ∃ c, T[i]? = some c := ⟨_, List.getElem?_eq_getElem (by rw [HN.out]; exact hlt)⟩;obtain ⟨c0, c1⟩ := (HX.out.ext HXr.out).2 a rfl i c hc;have HC := Lib.hid hc;have HCM := Lib.hid (HZ.out.1 c (List.mem_of_getElem? hc));obtain ⟨ck, cd⟩ := c;simp only at c0 c1 HCM;have wi : ∀ z, z = (i : Int) + 1 → IntKind.i64.wrap z = z := by rintro _ rfl; rw [IntKind.wrap_i64]; omega
    have hsz := HXr.out.size;clear c1 hc;go_wp2_with (at_builtin; refine wpList_append_own_at _ rfl _ _ 64 rfl w.heap.size 9 i0 (.string ⟨#[]⟩) 1 16 Tryz.underlying64 hi0 hz0 hz1 hz2 rfl (by decide) _ _ _ rfl (HR.out.alloc _) ⟨wr.heap.size, 0, none⟩ 1 1 [.string ck] rfl rfl ?c1 (str_one _) ?c3 ?c4 ?c5 ?_)
    case c1 => exact (cell_str_new _ _ _)
    case c3 => unfold maxLen; omega
    case c4 => omega
    case c5 => first | omega | (simp; omega)
    intro v' w1 hown hgrow _ _;have P1 := str_push (HXr.out.alloc _) (HR.out.alloc _) hgrow hown;have HR1 := Lib.hid P1.1;have HX1 := Lib.hid P1.2;clear P1 hown hgrow hsz c0 HR HXr;have L1 := Lib.hid (HS.out.step HX1.out);obtain ⟨c0, c1⟩ := (HX.out.ext HX1.out).2 a rfl i _ HC.out;have hp := ps L1.out;have HG := Lib.hid (get_any s mb cn L ck w1 E (HE.out.ext L1.out.ext) hp.1 L1.out.st.T HCM.out);simp only at c0 c1;clear c1 hp;go_wp2_with fail;refine HG.out.mono ?_;clear HG c0;cases hf : Tx.fnd L ck with
    | none =>
     have HF := Lib.hid hf;rintro e w2 ⟨hX, rfl⟩;have HX2 := Lib.hid (HX1.out.trans hX);clear hX hf;unfold sentV;go_wp2_with fail;go_ret;exact ⟨.inr ⟨(fun e => by
      have h1 := Tx.fnd_of_mem HS.out.st.so (c := ⟨ck, cd⟩) (by rw [← e]; exact List.mem_of_getElem? HC.out);rw [HF.out] at h1;cases h1), rfl⟩, HX2.out⟩
    | some t =>
     have HF := Lib.hid hf;rintro e w2 ⟨hX, rfl⟩;have HX2 := Lib.hid (HX1.out.trans hX);have HR2 := Lib.hid (ownsRow_kept (S := fun _ => False) HR1.out hX.keeps (fun _ _ => id));clear hX hf;obtain ⟨c0, c1⟩ := (HX.out.ext HX2.out).2 a rfl i _ HC.out;simp only at c0 c1;clear c0;by_cases hk : t = cd
     ·have t2 : (t.toList != cd.toList) = false := by rw [hk]; simp
      have t1 : (t.toList == cd.toList) = true := by rw [hk]; exact beq_self_eq_true _
      have HJ2 : Hid (∀ (j : Nat) (c : Ck), j < i + 1 → T[j]? = some c → Tx.fnd L c.k = some c.d) := Lib.hid (fun j c hj hc => by
       by_cases e : j = i
       ·subst e;rw [HC.out] at hc;injection hc with hc;subst hc;simp only;rw [HF.out, hk]
       ·exact HJ.out j c (by omega) hc)
      have HR3 : Hid (w2.ownsRow w.heap.size 9 1 v' (i + 1) (strL ((T.map (·.k)).take (i + 1)))) := Lib.hid (by
       have h := HR2.out;rw [List.take_add_one, List.getElem?_map, HC.out];exact h)
      clear hk;go_wp2_with fail;go_roundw
      case rel => exact ⟨i + 1, by omega, by go_num, HX2, HR3, HJ2⟩
      case measure => simp [intOf]; omega
     ·have t1 : (t.toList == cd.toList) = false := by
       rw [ByteArray.toList_eq, ByteArray.toList_eq];exact beq_eq_false_iff_ne.2 (fun e => hk (dl_inj e))
      have t2 : (t.toList != cd.toList) = true := by
       rw [ByteArray.toList_eq, ByteArray.toList_eq];exact bne_iff_ne.2 (fun e => hk (dl_inj e))
      have HK := Lib.hid hk;clear hk;go_wp2_with fail;go_ret;exact ⟨.inr ⟨fun e => by
       have h1 := Tx.fnd_of_mem HS.out.st.so (c := ⟨ck, cd⟩) (by rw [← e]; exact List.mem_of_getElem? HC.out);rw [HF.out] at h1;injection h1 with h1;exact HK.out h1, rfl⟩, HX2.out⟩
  ·as_aux_lemma =>
    obtain rfl : i = N := by omega
    have ht : ¬ (i : Int) < (i : Int) := by omega
    have L1 := Lib.hid (HS.out.step HXr.out);have hp := ps L1.out;have HNM := Lib.hid (names_any s mb cn L wr hp.1 L1.out.st.T L1.out.st.so L1.out.st.cnb);clear hp;go_wp2_with fail;refine HNM.out.mono ?_;rintro e w2 ⟨hX, v, rfl, hv⟩;have HV : Hid (Sx w2 v (L.map (·.k))) := Lib.hid (Sx.own (by rw [List.length_map, ← nmV_str]; exact hv));have HV2 : Hid (Sx w2 (.slice vx i vc) (T.map (·.k))) := Lib.hid (by
     have h := ownsRow_kept (S := fun _ => False) HR.out hX.keeps (fun _ _ => id);rw [List.take_of_length_le (by rw [List.length_map, HN.out]; exact Nat.le_refl _)] at h;refine Sx.own (B := w.heap.size) (e := 9) ?_;rw [List.length_map, HN.out];exact h)
    have HX2 := Lib.hid (HXr.out.trans hX);have HSM := Lib.hid (same_any _ _ _ _ w2 HV.out HV2.out (by rw [List.length_map, List.length_map, HN.out]; exact ⟨HZ.out.2, hn⟩));clear hX hv HNM;go_wp2_with fail;refine HSM.out.mono ?_;rintro e w3 ⟨rfl, hX⟩;have HX3 := Lib.hid (HX2.out.trans hX);clear hX HSM;obtain ⟨bb, hbb⟩ : ∃ b, decide (L.map (·.k) = T.map (·.k)) = b := ⟨_, rfl⟩;have HBB := Lib.hid hbb;rw [hbb];clear hbb;go_wp2_with fail;go_ret;refine ⟨?_, HX3.out⟩;cases bb
    ·exact .inr ⟨fun e => by
      have := of_decide_eq_false HBB.out;exact this (by rw [e]), rfl⟩
    ·exact .inl ⟨hold_eq HS.out.st.so (fun j c hc => HJ.out j c (by rw [← HN.out]; exact (List.getElem?_eq_some_iff.1 hc).1) hc) (of_decide_eq_true HBB.out).symm, rfl⟩
end Go.Proofs.YtheidjagcafgnaaGreatDoor
namespace Go.Proofs.YtheidjagcafgnaaGreatDoor
open Go.RowKit
def TxR (w w' : World) (O : List Ck) (e : Ending) : Prop :=
  Ext w w' ∧ ∃ x c, e = .returned (.slice x O.length c) ∧ Cks w' x O ∧ (∀ a, x = some a → w.heap.size ≤ a.block ∧ a.block < w'.heap.size)
theorem TxR.of_own {w w' : World} {e : TypeId} {v : Value} {O : List Ck} (hX : Ext w w') (h : w'.ownsRow w.heap.size e 2 v O.length (ckL O)) : TxR w w' O (.returned v) := by
  obtain ⟨x, c, rfl, hC⟩ := Cks.of_own h
  refine ⟨hX, x, c, rfl, hC, fun a ha => ?_⟩
  subst ha
  exact h.lt a.block (by rcases ownsRow_slice h with ⟨q, _⟩ | ⟨g, cap, q⟩; · cases q
                         · injection q with q; injection q with q; subst q; rfl)
theorem txinf : (Tryz.prog.info? 59).map (fun i => (i.zero, i.size, i.bytes)) = some (some (.agg #[.string ⟨#[]⟩, .string ⟨#[]⟩]), 2, 32) := by kernel_rfl
theorem tx_new (w : World) (T : TypeId) (k d : ByteArray) : ∀ (j : Nat) (u : Value), [Value.string k, Value.string d][j]? = some u → (w.alloc (.cells #[.string k, .string d] T)).cell? ((⟨w.heap.size, 0, none⟩ : Addr).add j) = some u := by
  intro j u hj
  rw [add_plain]
  match j, hj with
  | 0, hj => simp at hj; subst hj; simp
  | 1, hj => simp at hj; subst hj; simp
theorem tx_one (k d : ByteArray) : ∀ u ∈ [Value.string k, Value.string d], u.oneCell' = true := by
  intro u hu; simp at hu; rcases hu with rfl | rfl <;> rfl
theorem tx_push {w0 wr w1 : World} {v v' : Value} {L : List Ck} {n : Nat} {k d : ByteArray} {T : TypeId} (hE : Ext w0 wr) (hR : wr.ownsRow w0.heap.size T 2 v n (ckL L)) (hg : wr.grownBy w1 v.ownBlock)
    (ho : w1.ownsRow w0.heap.size T 2 v' (n + 1) (ckL L ++ [.string k, .string d])) : w1.ownsRow w0.heap.size T 2 v' (n + 1) (ckL (L ++ [(⟨k, d⟩ : Ck)])) ∧ Ext w0 w1 := by
  refine ⟨?_, Below.trans hE ((Keeps.grown hg).below hE.size (fun k hk e => by have := (hR.lt k e).1; omega))⟩
  rw [ckL_snoc]
  exact ho
theorem drp_snoc (L : List Ck) (c : Ck) (k : ByteArray) : Tx.drp (L ++ [c]) k = if c.k = k then Tx.drp L k else Tx.drp L k ++ [c] := by
  unfold Tx.drp
  rw [List.filter_append]
  by_cases h : c.k = k
  · rw [if_pos h, List.filter_cons_of_neg (by simpa using h)]; simp
  · rw [if_neg h, List.filter_cons_of_pos (by simpa using h)]; simp
set_option linter.unusedSimpArgs false in
set_option maxHeartbeats 8000000 in
theorem dropText_any (x : Option Addr) (cap : Nat) (L : List Ck) (k : ByteArray) (w : World) (hx : Cks w x L) (hn : L.length ≤ 100000) :
    Calls Tryz.prog 38 #[.slice x L.length cap, .string k] w fun e w' => TxR w w' (Tx.drp L k) e := by
  have HX := Lib.hid hx
  clear hx
  obtain ⟨n, hn0⟩ : ∃ n, L.length = n := ⟨_, rfl⟩
  have HN := Lib.hid hn0
  rw [hn0] at hn ⊢
  clear hn0
  obtain ⟨i0, hi0, hz0, hz1, hz2⟩ := info_parts txinf
  go_enter Tryz.func38, Tryz.ntmps38
  go_wp2_with fail
  go_loopw [5, 6] (fun v cc wr => ∃ (i o : Nat) (O : List Ck), i ≤ n ∧ o ≤ i ∧ cc = .int .i64 (i : Int) ∧ Hid (Ext w wr) ∧ Hid (O = Tx.drp (L.take i) k) ∧ Hid (O.length = o) ∧ Hid (wr.ownsRow w.heap.size 59 2 v o (ckL O))) (fun _ cc _ => n - (intOf cc).toNat)
  case atStart => exact ⟨0, 0, [], by omega, by omega, rfl, Lib.hid (Ext.refl w), Lib.hid rfl, Lib.hid rfl, Lib.hid (World.ownsRow_nil _ _ _ _)⟩
  case round =>
    obtain ⟨i, o, O, hi, ho, rfl, HXr, HO, HOL, HR⟩ := hrel
    obtain ⟨vx, vc, rfl⟩ := own_litS HR.out
    by_cases hlt : i < n
    · as_aux_lemma =>
        have ht : (i : Int) < (n : Int) := by omega
        obtain ⟨a, rfl⟩ := HX.out.isSome (i := i) (by rw [HN.out]; exact hlt)
        obtain ⟨c, hc⟩ : ∃ c, L[i]? = some c := ⟨_, List.getElem?_eq_getElem (by rw [HN.out]; exact hlt)⟩
        obtain ⟨c0, c1⟩ := (HX.out.ext HXr.out).2 a rfl i c hc
        have HT : Hid (L.take (i + 1) = L.take i ++ [c]) := Lib.hid (by rw [List.take_add_one, hc]; rfl)
        obtain ⟨ck, cd⟩ := c
        simp only at c0 c1
        have wi : ∀ z, z = (i : Int) + 1 → IntKind.i64.wrap z = z := by rintro _ rfl; rw [IntKind.wrap_i64]; omega
        have hsz := HXr.out.size
        clear hc
        by_cases hk : ck = k
        · have t1 : (ck.toList == k.toList) = true := by rw [hk]; exact beq_self_eq_true _
          have HO2 : Hid (O = Tx.drp (L.take (i + 1)) k) := Lib.hid (by rw [HT.out, drp_snoc, if_pos hk]; exact HO.out)
          clear hk
          go_wp2_with fail
          go_roundw
          case rel => exact ⟨i + 1, o, O, by omega, by omega, by go_num, HXr, HO2, HOL, HR⟩
          case measure => simp [intOf]; omega
        · have t1 : (ck.toList == k.toList) = false := by
            rw [ByteArray.toList_eq, ByteArray.toList_eq]
            exact beq_eq_false_iff_ne.2 (fun e => hk (dl_inj e))
          have HO2 : Hid (O ++ [⟨ck, cd⟩] = Tx.drp (L.take (i + 1)) k) := Lib.hid (by rw [HT.out, drp_snoc, if_neg hk, HO.out])
          clear hk
          go_wp2_with (at_builtin; refine wpList_append_own_at _ rfl _ _ 38 rfl w.heap.size 59 i0 (.agg #[.string ⟨#[]⟩, .string ⟨#[]⟩]) 2 32 Tryz.underlying38 hi0 hz0 hz1 hz2 rfl (by decide) _ _ _ rfl (HR.out.alloc _) ⟨wr.heap.size, 0, none⟩ 1 1 [.string ck, .string cd] rfl rfl ?c1 (tx_one _ _) ?c3 ?c4 ?c5 ?_)
          case c1 => exact (tx_new _ _ _ _)
          case c3 => unfold maxLen; omega
          case c4 => omega
          case c5 => first | omega | (simp; omega)
          intro v' w1 hown hgrow _ _
          have P1 := tx_push (HXr.out.alloc _) (HR.out.alloc _) hgrow hown
          have HR1 := Lib.hid P1.1
          have HX1 := Lib.hid P1.2
          clear P1 hown hgrow hsz c0 c1 HR HXr
          go_wp2_with fail
          go_roundw
          case rel => exact ⟨i + 1, o + 1, O ++ [⟨ck, cd⟩], by omega, by omega, by go_num, HX1, HO2, Lib.hid (by rw [List.length_append, HOL.out]; rfl), HR1⟩
          case measure => simp [intOf]; omega
    · as_aux_lemma =>
        obtain rfl : i = n := by omega
        have ht : ¬ (i : Int) < (i : Int) := by omega
        have HF : Hid (TxR w wr (Tx.drp L k) (.returned (.slice vx o vc))) := Lib.hid (by
          have e : O = Tx.drp L k := by rw [HO.out, List.take_of_length_le (by rw [HN.out]; exact Nat.le_refl _)]
          rw [← e]
          exact TxR.of_own HXr.out (by rw [HOL.out]; exact HR.out))
        go_wp2_with fail
        go_ret
        exact HF.out
end Go.Proofs.YtheidjagcafgnaaGreatDoor
namespace Go.Proofs.YtheidjagcafgnaaGreatDoor
open Go.RowKit
theorem drp_cons (L : List Ck) (c : Ck) (k : ByteArray) : Tx.drp (c :: L) k = if c.k = k then Tx.drp L k else c :: Tx.drp L k := by
 unfold Tx.drp;by_cases h : c.k = k
 ·rw [if_pos h, List.filter_cons_of_neg (by simpa using h)]
 ·rw [if_neg h, List.filter_cons_of_pos (by simpa using h)]
theorem ins_cons (L : List Ck) (c : Ck) (k t : ByteArray) : Tx.ins k t (c :: L) = if Tx.key k ≤ Tx.key c.k then ⟨k, t⟩ :: Tx.drp (c :: L) k else c :: Tx.ins k t L := rfl
def putR (b : Bool) (k t : ByteArray) (L : List Ck) : List Ck := if b then Tx.drp L k else Tx.ins k t L
set_option linter.unusedSimpArgs false in
set_option maxHeartbeats 8000000 in
theorem putText_any (x : Option Addr) (cap : Nat) (L : List Ck) (k t : ByteArray) (w : World) (hx : Cks w x L) (hn : L.length ≤ 100000) :
  Calls Tryz.prog 37 #[.slice x L.length cap, .string k, .string t] w fun e w' => TxR w w' (Tx.ins k t L) e := by
 have HX := Lib.hid hx;clear hx;obtain ⟨n, hn0⟩ : ∃ n, L.length = n := ⟨_, rfl⟩;have HN := Lib.hid hn0;rw [hn0] at hn ⊢;clear hn0;obtain ⟨i0, hi0, hz0, hz1, hz2⟩ := info_parts txinf;go_enter Tryz.func37, Tryz.ntmps37
 go_wp2_with fail;go_loopw [7, 8, 9] (fun v bb cc wr => ∃ (i o : Nat) (O : List Ck) (b : Bool), i ≤ n ∧ o ≤ i + 1 ∧ (b = false → o ≤ i) ∧ cc = .int .i64 (i : Int) ∧ bb = .bool b ∧ Hid (Ext w wr) ∧ Hid (O ++ putR b k t (L.drop i) = Tx.ins k t L) ∧ Hid (O.length = o) ∧ Hid (wr.ownsRow w.heap.size 59 2 v o (ckL O))) (fun _ _ cc _ => n - (intOf cc).toNat)
 case atStart => exact ⟨0, 0, [], false, by omega, by omega, fun _ => by omega, rfl, rfl, Lib.hid (Ext.refl w), Lib.hid rfl, Lib.hid rfl, Lib.hid (World.ownsRow_nil _ _ _ _)⟩
 case round =>
  obtain ⟨i, o, O, b, hi, ho, hob, rfl, rfl, HXr, HO, HOL, HR⟩ := hrel;obtain ⟨vx, vc, rfl⟩ := own_litS HR.out;by_cases hlt : i < n
  ·have ht : (i : Int) < (n : Int) := by omega
   obtain ⟨a, rfl⟩ := HX.out.isSome (i := i) (by rw [HN.out]; exact hlt);obtain ⟨c, hc⟩ : ∃ c, L[i]? = some c := ⟨_, List.getElem?_eq_getElem (by rw [HN.out]; exact hlt)⟩;have HCE := Lib.hid (fun (wz : World) (hz : Ext w wz) => (HX.out.ext hz).2 a rfl i c hc);have HD : Hid (L.drop i = c :: L.drop (i + 1)) := Lib.hid (by
    have hil : i < L.length := by rw [HN.out]; exact hlt
    rw [List.drop_eq_getElem_cons hil];congr 1
    rw [List.getElem?_eq_getElem hil] at hc;injection hc)
   obtain ⟨ck, cd⟩ := c;have wi : ∀ z, z = (i : Int) + 1 → IntKind.i64.wrap z = z := by rintro _ rfl; rw [IntKind.wrap_i64]; omega
   clear hc;obtain ⟨c0, c1⟩ := HCE.out wr HXr.out;simp only at c0 c1;by_cases hk : ck = k
   ·as_aux_lemma =>
     have t1 : (ck.toList == k.toList) = true := by rw [hk]; exact beq_self_eq_true _
     have t2 : (k.toList == ck.toList) = true := by rw [hk]; exact beq_self_eq_true _
     have t3 : Op.bytesLess k.toList ck.toList = false := by rw [hk, bytesLess_eq]; exact decide_eq_false (List.lt_irrefl _)
     have hkl : Tx.key k ≤ Tx.key ck := by rw [hk]; exact List.le_refl _
     cases b
     ·as_aux_lemma =>
       have HP := Lib.hid HO.out;have hob2 := hob rfl;clear hob;have HO2 : Hid ((O ++ [⟨k, t⟩]) ++ putR true k t (L.drop (i + 1)) = Tx.ins k t L) := Lib.hid (by have h := HP.out; rw [HD.out] at h; unfold putR at h ⊢; simp only [if_true, Bool.false_eq_true, if_false] at h ⊢; rw [ins_cons, if_pos hkl, drp_cons, if_pos hk] at h; rw [List.append_assoc]; exact h);clear hk HP HO hkl;have hszA := HXr.out.size;go_wp2_with (at_builtin; refine wpList_append_own_at _ rfl _ _ 38 rfl w.heap.size 59 i0 (.agg #[.string ⟨#[]⟩, .string ⟨#[]⟩]) 2 32 Tryz.underlying38 hi0 hz0 hz1 hz2 rfl (by decide) _ _ _ rfl (HR.out.alloc _) ⟨wr.heap.size, 0, none⟩ 1 1 [.string k, .string t] rfl rfl ?q1a (tx_one _ _) ?q1b ?q1c ?q1d ?_);try case q1a => exact (tx_new _ _ _ _)
       case q1b => unfold maxLen; omega
       case q1c => omega
       case q1d => first | omega | (simp; omega)
       intro vA wA hown hgrow _ _;have P1 := tx_push (HXr.out.alloc _) (HR.out.alloc _) hgrow hown;have HRA := Lib.hid P1.1;have HXA := Lib.hid P1.2;clear P1 hown hgrow hszA c0 c1 HR HXr;obtain ⟨vxA, vcA, rfl⟩ := own_litS HRA.out;obtain ⟨c0, c1⟩ := HCE.out wA HXA.out;(try simp only at c0 c1);go_wp2_with fail;go_roundw
       case rel => exact ⟨i + 1, o + 1, O ++ [⟨k, t⟩], true, by omega, by omega, fun q => (by cases q), by go_num, rfl, HXA, HO2, Lib.hid (by rw [List.length_append, HOL.out]; rfl), HRA⟩
       case measure => simp [intOf]; omega
     ·as_aux_lemma =>
       have HP := Lib.hid HO.out;clear hob;have HO2 : Hid (O ++ putR true k t (L.drop (i + 1)) = Tx.ins k t L) := Lib.hid (by have h := HP.out; rw [HD.out] at h; unfold putR at h ⊢; simp only [if_true] at h ⊢; rw [drp_cons, if_pos hk] at h; exact h);clear hk HP HO hkl;go_wp2_with fail;go_roundw
       case rel => exact ⟨i + 1, o, O, true, by omega, by omega, fun q => (by cases q), by go_num, rfl, HXr, HO2, HOL, HR⟩
       case measure => simp [intOf]; omega
   by_cases hl : Tx.key k < Tx.key ck
   ·as_aux_lemma =>
     have t1 : (ck.toList == k.toList) = false := by
      rw [ByteArray.toList_eq, ByteArray.toList_eq];exact beq_eq_false_iff_ne.2 (fun e => hk (dl_inj e))
     have t2 : (k.toList == ck.toList) = false := by
      rw [ByteArray.toList_eq, ByteArray.toList_eq];exact beq_eq_false_iff_ne.2 (fun e => hk (dl_inj e.symm))
     have t3 : Op.bytesLess k.toList ck.toList = true := by rw [ByteArray.toList_eq, ByteArray.toList_eq, bytesLess_eq]; exact decide_eq_true hl
     have hkl : Tx.key k ≤ Tx.key ck := List.le_of_lt hl;cases b
     ·as_aux_lemma =>
       have HP := Lib.hid HO.out;have hob2 := hob rfl;clear hob;have HO2 : Hid (((O ++ [⟨k, t⟩]) ++ [⟨ck, cd⟩]) ++ putR true k t (L.drop (i + 1)) = Tx.ins k t L) := Lib.hid (by have h := HP.out; rw [HD.out] at h; unfold putR at h ⊢; simp only [if_true, Bool.false_eq_true, if_false] at h ⊢; rw [ins_cons, if_pos hkl, drp_cons, if_neg hk] at h; rw [List.append_assoc, List.append_assoc]; exact h);clear hk HP HO hkl hl;have hszA := HXr.out.size;go_wp2_with (at_builtin; refine wpList_append_own_at _ rfl _ _ 38 rfl w.heap.size 59 i0 (.agg #[.string ⟨#[]⟩, .string ⟨#[]⟩]) 2 32 Tryz.underlying38 hi0 hz0 hz1 hz2 rfl (by decide) _ _ _ rfl (HR.out.alloc _) ⟨wr.heap.size, 0, none⟩ 1 1 [.string k, .string t] rfl rfl ?q2a (tx_one _ _) ?q2b ?q2c ?q2d ?_);try case q2a => exact (tx_new _ _ _ _)
       case q2b => unfold maxLen; omega
       case q2c => omega
       case q2d => first | omega | (simp; omega)
       intro vA wA hown hgrow _ _;have P1 := tx_push (HXr.out.alloc _) (HR.out.alloc _) hgrow hown;have HRA := Lib.hid P1.1;have HXA := Lib.hid P1.2;clear P1 hown hgrow hszA c0 c1 HR HXr;obtain ⟨vxA, vcA, rfl⟩ := own_litS HRA.out;obtain ⟨c0, c1⟩ := HCE.out wA HXA.out;(try simp only at c0 c1);have hszB := HXA.out.size;go_wp2_with (at_builtin; refine wpList_append_own_at _ rfl _ _ 38 rfl w.heap.size 59 i0 (.agg #[.string ⟨#[]⟩, .string ⟨#[]⟩]) 2 32 Tryz.underlying38 hi0 hz0 hz1 hz2 rfl (by decide) _ _ _ rfl (HRA.out.alloc _) ⟨wA.heap.size, 0, none⟩ 1 1 [.string ck, .string cd] rfl rfl ?q3a (tx_one _ _) ?q3b ?q3c ?q3d ?_);try case q3a => exact (tx_new _ _ _ _)
       case q3b => unfold maxLen; omega
       case q3c => omega
       case q3d => first | omega | (simp; omega)
       intro vB wB hown hgrow _ _;have P1 := tx_push (HXA.out.alloc _) (HRA.out.alloc _) hgrow hown;have HRB := Lib.hid P1.1;have HXB := Lib.hid P1.2;clear P1 hown hgrow hszB c0 c1 HRA HXA;obtain ⟨vxB, vcB, rfl⟩ := own_litS HRB.out;obtain ⟨c0, c1⟩ := HCE.out wB HXB.out;(try simp only at c0 c1);go_wp2_with fail;go_roundw
       case rel => exact ⟨i + 1, o + 1 + 1, (O ++ [⟨k, t⟩]) ++ [⟨ck, cd⟩], true, by omega, by omega, fun q => (by cases q), by go_num, rfl, HXB, HO2, Lib.hid (by rw [List.length_append, List.length_append, HOL.out]; rfl), HRB⟩
       case measure => simp [intOf]; omega
     ·as_aux_lemma =>
       have HP := Lib.hid HO.out;clear hob;have HO2 : Hid ((O ++ [⟨ck, cd⟩]) ++ putR true k t (L.drop (i + 1)) = Tx.ins k t L) := Lib.hid (by have h := HP.out; rw [HD.out] at h; unfold putR at h ⊢; simp only [if_true] at h ⊢; rw [drp_cons, if_neg hk] at h; rw [List.append_assoc]; exact h);clear hk HP HO hkl hl;have hszA := HXr.out.size;go_wp2_with (at_builtin; refine wpList_append_own_at _ rfl _ _ 38 rfl w.heap.size 59 i0 (.agg #[.string ⟨#[]⟩, .string ⟨#[]⟩]) 2 32 Tryz.underlying38 hi0 hz0 hz1 hz2 rfl (by decide) _ _ _ rfl (HR.out.alloc _) ⟨wr.heap.size, 0, none⟩ 1 1 [.string ck, .string cd] rfl rfl ?q4a (tx_one _ _) ?q4b ?q4c ?q4d ?_);try case q4a => exact (tx_new _ _ _ _)
       case q4b => unfold maxLen; omega
       case q4c => omega
       case q4d => first | omega | (simp; omega)
       intro vA wA hown hgrow _ _;have P1 := tx_push (HXr.out.alloc _) (HR.out.alloc _) hgrow hown;have HRA := Lib.hid P1.1;have HXA := Lib.hid P1.2;clear P1 hown hgrow hszA c0 c1 HR HXr;obtain ⟨vxA, vcA, rfl⟩ := own_litS HRA.out;obtain ⟨c0, c1⟩ := HCE.out wA HXA.out;(try simp only at c0 c1);go_wp2_with fail;go_roundw
       case rel => exact ⟨i + 1, o + 1, O ++ [⟨ck, cd⟩], true, by omega, by omega, fun q => (by cases q), by go_num, rfl, HXA, HO2, Lib.hid (by rw [List.length_append, HOL.out]; rfl), HRA⟩
       case measure => simp [intOf]; omega
   ·as_aux_lemma =>
     have t1 : (ck.toList == k.toList) = false := by
      rw [ByteArray.toList_eq, ByteArray.toList_eq];exact beq_eq_false_iff_ne.2 (fun e => hk (dl_inj e))
     have t2 : (k.toList == ck.toList) = false := by
      rw [ByteArray.toList_eq, ByteArray.toList_eq];exact beq_eq_false_iff_ne.2 (fun e => hk (dl_inj e.symm))
     have t3 : Op.bytesLess k.toList ck.toList = false := by rw [ByteArray.toList_eq, ByteArray.toList_eq, bytesLess_eq]; exact decide_eq_false hl
     have hkl : ¬ Tx.key k ≤ Tx.key ck := fun q => hl (Tx.lt_of_le_ne q (fun e => hk (Tx.key_inj e).symm));cases b
     ·as_aux_lemma =>
       have HP := Lib.hid HO.out;have hob2 := hob rfl;clear hob;have HO2 : Hid ((O ++ [⟨ck, cd⟩]) ++ putR false k t (L.drop (i + 1)) = Tx.ins k t L) := Lib.hid (by have h := HP.out; rw [HD.out] at h; unfold putR at h ⊢; simp only [Bool.false_eq_true, if_false] at h ⊢; rw [ins_cons, if_neg hkl] at h; rw [List.append_assoc]; exact h);clear hk HP HO hkl hl;have hszA := HXr.out.size;go_wp2_with (at_builtin; refine wpList_append_own_at _ rfl _ _ 38 rfl w.heap.size 59 i0 (.agg #[.string ⟨#[]⟩, .string ⟨#[]⟩]) 2 32 Tryz.underlying38 hi0 hz0 hz1 hz2 rfl (by decide) _ _ _ rfl (HR.out.alloc _) ⟨wr.heap.size, 0, none⟩ 1 1 [.string ck, .string cd] rfl rfl ?q5a (tx_one _ _) ?q5b ?q5c ?q5d ?_);try case q5a => exact (tx_new _ _ _ _)
       case q5b => unfold maxLen; omega
       case q5c => omega
       case q5d => first | omega | (simp; omega)
       intro vA wA hown hgrow _ _;have P1 := tx_push (HXr.out.alloc _) (HR.out.alloc _) hgrow hown;have HRA := Lib.hid P1.1;have HXA := Lib.hid P1.2;clear P1 hown hgrow hszA c0 c1 HR HXr;obtain ⟨vxA, vcA, rfl⟩ := own_litS HRA.out;obtain ⟨c0, c1⟩ := HCE.out wA HXA.out;(try simp only at c0 c1);go_wp2_with fail;go_roundw
       case rel => exact ⟨i + 1, o + 1, O ++ [⟨ck, cd⟩], false, by omega, by omega, fun _ => by omega, by go_num, rfl, HXA, HO2, Lib.hid (by rw [List.length_append, HOL.out]; rfl), HRA⟩
       case measure => simp [intOf]; omega
     ·as_aux_lemma =>
       have HP := Lib.hid HO.out;clear hob;have HO2 : Hid ((O ++ [⟨ck, cd⟩]) ++ putR true k t (L.drop (i + 1)) = Tx.ins k t L) := Lib.hid (by have h := HP.out; rw [HD.out] at h; unfold putR at h ⊢; simp only [if_true] at h ⊢; rw [drp_cons, if_neg hk] at h; rw [List.append_assoc]; exact h);clear hk HP HO hkl hl;have hszA := HXr.out.size;go_wp2_with (at_builtin; refine wpList_append_own_at _ rfl _ _ 38 rfl w.heap.size 59 i0 (.agg #[.string ⟨#[]⟩, .string ⟨#[]⟩]) 2 32 Tryz.underlying38 hi0 hz0 hz1 hz2 rfl (by decide) _ _ _ rfl (HR.out.alloc _) ⟨wr.heap.size, 0, none⟩ 1 1 [.string ck, .string cd] rfl rfl ?q6a (tx_one _ _) ?q6b ?q6c ?q6d ?_);try case q6a => exact (tx_new _ _ _ _)
       case q6b => unfold maxLen; omega
       case q6c => omega
       case q6d => first | omega | (simp; omega)
       intro vA wA hown hgrow _ _;have P1 := tx_push (HXr.out.alloc _) (HR.out.alloc _) hgrow hown;have HRA := Lib.hid P1.1;have HXA := Lib.hid P1.2;clear P1 hown hgrow hszA c0 c1 HR HXr;obtain ⟨vxA, vcA, rfl⟩ := own_litS HRA.out;obtain ⟨c0, c1⟩ := HCE.out wA HXA.out;(try simp only at c0 c1);go_wp2_with fail;go_roundw
       case rel => exact ⟨i + 1, o + 1, O ++ [⟨ck, cd⟩], true, by omega, by omega, fun q => (by cases q), by go_num, rfl, HXA, HO2, Lib.hid (by rw [List.length_append, HOL.out]; rfl), HRA⟩
       case measure => simp [intOf]; omega
  ·obtain rfl : i = n := by omega
   have ht : ¬ (i : Int) < (i : Int) := by omega
   have HD : Hid (L.drop i = []) := Lib.hid (List.drop_of_length_le (by rw [HN.out]; exact Nat.le_refl _));cases b
   ·as_aux_lemma =>
     have HO2 : Hid (O ++ [⟨k, t⟩] = Tx.ins k t L) := Lib.hid (by have h := HO.out; rw [HD.out] at h; exact h);have HCE : Hid (∀ wz, Ext w wz → True ∧ True) := Lib.hid (fun _ _ => ⟨trivial, trivial⟩);have c0 : True := trivial;have c1 : True := trivial;have hszA := HXr.out.size;go_wp2_with (at_builtin; refine wpList_append_own_at _ rfl _ _ 38 rfl w.heap.size 59 i0 (.agg #[.string ⟨#[]⟩, .string ⟨#[]⟩]) 2 32 Tryz.underlying38 hi0 hz0 hz1 hz2 rfl (by decide) _ _ _ rfl (HR.out.alloc _) ⟨wr.heap.size, 0, none⟩ 1 1 [.string k, .string t] rfl rfl ?q7a (tx_one _ _) ?q7b ?q7c ?q7d ?_);try case q7a => exact (tx_new _ _ _ _)
     case q7b => unfold maxLen; omega
     case q7c => omega
     case q7d => first | omega | (simp; omega)
     intro vA wA hown hgrow _ _;have P1 := tx_push (HXr.out.alloc _) (HR.out.alloc _) hgrow hown;have HRA := Lib.hid P1.1;have HXA := Lib.hid P1.2;clear P1 hown hgrow hszA c0 c1 HR HXr;obtain ⟨vxA, vcA, rfl⟩ := own_litS HRA.out;obtain ⟨c0, c1⟩ := HCE.out wA HXA.out;(try simp only at c0 c1);have HF : Hid (TxR w wA (Tx.ins k t L) (.returned (.slice vxA (o + 1) vcA))) := Lib.hid (by
      rw [← HO2.out];have e : (O ++ [(⟨k, t⟩ : Ck)]).length = o + 1 := by rw [List.length_append, HOL.out]; rfl
      exact TxR.of_own HXA.out (by rw [e]; exact HRA.out))
     clear c0 c1;go_wp2_with fail;go_ret;exact HF.out
   ·as_aux_lemma =>
     have HO2 : Hid (O = Tx.ins k t L) := Lib.hid (by have h := HO.out; rw [HD.out] at h; unfold putR at h; simp only [if_true] at h; rw [show Tx.drp [] k = [] from rfl, List.append_nil] at h; exact h);have HF : Hid (TxR w wr (Tx.ins k t L) (.returned (.slice vx o vc))) := Lib.hid (by
      rw [← HO2.out];exact TxR.of_own HXr.out (by rw [HOL.out]; exact HR.out))
     go_wp2_with fail;go_ret;exact HF.out
end Go.Proofs.YtheidjagcafgnaaGreatDoor
namespace Go.Proofs.YtheidjagcafgnaaGreatDoor
open Go.RowKit
structure Ch where
 kind : ByteArray
 name : ByteArray
 text : ByteArray
def chV (c : Ch) : Value := .agg #[.string c.kind, .string c.name, .string c.text]
/-- a row of changes, wherever it lies -/
def Chs (w : World) (x : Option Addr) (n : Nat) (ch : Nat → Ch) : Prop :=
 (x = none → n = 0) ∧ ∀ a, x = some a → ∀ i, i < n →
  w.cell? (a.add (i * 3)) = some (.string (ch i).kind) ∧ w.cell? ⟨(a.add (i * 3)).block, (a.add (i * 3)).off + 1, none⟩ = some (.string (ch i).name) ∧
  w.cell? ⟨(a.add (i * 3)).block, (a.add (i * 3)).off + 2, none⟩ = some (.string (ch i).text)
theorem Chs.ext {w w' : World} {x : Option Addr} {n : Nat} {ch : Nat → Ch} (h : Chs w x n ch) (hE : Ext w w') : Chs w' x n ch := by
 refine ⟨h.1, fun a ha i hi => ?_⟩;obtain ⟨c0, c1, c2⟩ := h.2 a ha i hi;have K := hE.keeps (S := fun _ => False);have hl : (a.add (i * 3)).block < w.heap.size := World.block_lt_of_cell? w _ c0;exact ⟨(K.cell hl id).trans c0, (K.cell (p := ⟨_, _, none⟩) hl id).trans c1, (K.cell (p := ⟨_, _, none⟩) hl id).trans c2⟩
def lightC (n : Nat) (ch : Nat → Ch) : Prop := n ≤ 60 ∧ ∀ i, i < n → (ch i).name.size ≤ 100 ∧ (ch i).text.size ≤ 8000
/-- bytes of the first k texts -/
def sumT (ch : Nat → Ch) : Nat → Nat
 | 0 => 0
 | k + 1 => sumT ch k + (ch k).text.size
theorem sumT_le {ch : Nat → Ch} {B n : Nat} (h : ∀ i, i < n → (ch i).text.size ≤ B) : ∀ k, k ≤ n → sumT ch k ≤ k * B
 | 0, _ => Nat.zero_le _
 | k + 1, hk => by
  have := sumT_le h k (by omega);have := h k (by omega);show sumT ch k + (ch k).text.size ≤ _;rw [Nat.succ_mul]; omega
theorem sumT_ge {ch : Nat → Ch} {i : Nat} : ∀ {k : Nat}, i < k → (ch i).text.size ≤ sumT ch k
 | 0, h => by omega
 | k + 1, h => by
  show _ ≤ sumT ch k + (ch k).text.size;by_cases e : i = k
  ·subst e; omega
  ·have := sumT_ge (ch := ch) (i := i) (k := k) (by omega); omega
def LightP (n : Nat) (ch : Nat → Ch) (e : Ending) : Prop := ∃ b, e = .returned (.bool b) ∧ (b = true → lightC n ch ∧ sumT ch n ≤ 8000)
set_option maxHeartbeats 4000000 in
theorem light_any (x : Option Addr) (n cap : Nat) (ch : Nat → Ch) (w : World) (hx : Chs w x n ch) (hn : n ≤ maxLen) (hz : ∀ i, i < n → (ch i).text.size ≤ 140737488355328) :
  Calls Tryz.prog 14 #[.slice x n cap] w fun e w' => LightP n ch e ∧ w = w' := by
 have HX := Lib.hid hx;have HZ := Lib.hid hz;clear hx hz;unfold maxLen at hn;go_enter Tryz.func14, Tryz.ntmps14
 go_wp2_with fail;go_loop [3, 4] (fun s cc => ∃ (i : Nat) (u : Int), i ≤ n ∧ cc = .int .i64 (i : Int) ∧ s = .int .i64 u ∧ Hid (n ≤ 60 → u = ((sumT ch i : Nat) : Int)) ∧ Hid (∀ j, j < i → (ch j).name.size ≤ 100)) (fun _ cc => n - (intOf cc).toNat)
 case atStart => exact ⟨0, 0, by omega, rfl, rfl, Lib.hid (fun _ => rfl), Lib.hid (fun j hj => by omega)⟩
 case round =>
  obtain ⟨i, u, hi, rfl, rfl, HU, HJ⟩ := hrel;by_cases hlt : i < n
  ·as_aux_lemma =>
    have ht : (i : Int) < (n : Int) := by omega
    obtain ⟨a, rfl⟩ : ∃ a, x = some a := by
     cases x with
     | none => have := HX.out.1 rfl; omega
     | some a => exact ⟨a, rfl⟩
    obtain ⟨c0, c1, c2⟩ := HX.out.2 a rfl i hlt;have HU2 : Hid (n ≤ 60 → IntKind.i64.wrap (u + ((ch i).text.size : Int)) = ((sumT ch (i + 1) : Nat) : Int)) := Lib.hid (fun h60 => by
     have h1 := HU.out h60;have h2 := sumT_le HZ.out (i + 1) (by omega);have h3 : sumT ch (i + 1) = sumT ch i + (ch i).text.size := rfl;rw [h1, IntKind.wrap_i64, h3];rw [h3] at h2;have : (i + 1) * 140737488355328 ≤ 61 * 140737488355328 := Nat.mul_le_mul_right _ (by omega);push_cast
     omega)
    obtain ⟨v, hv⟩ : ∃ v, IntKind.i64.wrap (u + ((ch i).text.size : Int)) = v := ⟨_, rfl⟩;have wv : wrap64 (u + ((ch i).text.size : Int)) = v := by rw [← hv, IntKind.wrap_i64]; unfold wrap64; omega
    rw [hv] at HU2;obtain ⟨nm, hnm⟩ : ∃ q, (ch i).name = q := ⟨_, rfl⟩;rw [hnm] at c1;have HNM := Lib.hid hnm;have wi : ∀ z, z = (i : Int) + 1 → IntKind.i64.wrap z = z := by rintro _ rfl; rw [IntKind.wrap_i64]; omega
    clear c0 hnm;by_cases hk : 100 < nm.size
    ·have t1 : (100 : Int) < (nm.size : Int) := by omega
     clear hk;go_wp2_with fail;go_ret;exact ⟨⟨false, rfl, fun q => by cases q⟩, rfl⟩
    ·have t1 : ¬ (100 : Int) < (nm.size : Int) := by omega
     have HJ2 : Hid (∀ j, j < i + 1 → (ch j).name.size ≤ 100) := Lib.hid (fun j hj => by
      by_cases e : j = i
      ·subst e; rw [HNM.out]; omega
      ·exact HJ.out j (by omega))
     clear hk;go_wp2_with fail;go_round
     case rel => exact ⟨i + 1, v, by omega, by go_num, by first | rfl | rw [hv] | rw [wv], HU2, HJ2⟩
     case measure => simp [intOf]; omega
  ·as_aux_lemma =>
    obtain rfl : i = n := by omega
    have ht : ¬ (i : Int) < (i : Int) := by omega
    by_cases h60 : i ≤ 60
    ·have t1 : (i : Int) ≤ 60 := by omega
     have hu := HU.out h60;by_cases h8 : u ≤ 8000
     ·have hf : lightC i ch ∧ sumT ch i ≤ 8000 := ⟨⟨h60, fun j hj => ⟨HJ.out j hj, by have := sumT_ge (ch := ch) hj; omega⟩⟩, by omega⟩;have HF := Lib.hid hf;clear hf hu h60;go_wp2_with fail;go_ret;exact ⟨⟨true, rfl, fun _ => HF.out⟩, rfl⟩
     ·clear hu h60;go_wp2_with fail;go_ret;exact ⟨⟨false, rfl, fun q => by cases q⟩, rfl⟩
    ·have t1 : ¬ (i : Int) ≤ 60 := by omega
     clear h60;go_wp2_with fail;go_ret;exact ⟨⟨false, rfl, fun q => by cases q⟩, rfl⟩
end Go.Proofs.YtheidjagcafgnaaGreatDoor
namespace Go.Proofs.YtheidjagcafgnaaGreatDoor
open Go.RowKit
/-- a row of texts, in a block that has a property -/
def TxB (w : World) (P : Nat → Prop) (v : Value) (L : List Ck) : Prop := ∃ x c, v = .slice x L.length c ∧ Cks w x L ∧ ∀ a, x = some a → P a.block ∧ a.block < w.heap.size
theorem TxB.nil (w : World) (P : Nat → Prop) : TxB w P (.slice none 0 0) [] := ⟨none, 0, rfl, ⟨fun _ => rfl, fun a h => by cases h⟩, fun a h => by cases h⟩
theorem TxB.ext {w w' : World} {P : Nat → Prop} {v : Value} {L : List Ck} (h : TxB w P v L) (hE : Ext w w') : TxB w' P v L := by
 obtain ⟨x, c, hv, hC, hb⟩ := h;exact ⟨x, c, hv, hC.ext hE, fun a ha => ⟨(hb a ha).1, Nat.lt_of_lt_of_le (hb a ha).2 hE.size⟩⟩
theorem TxB.of_row {w w' : World} {P : Nat → Prop} {O : List Ck} {e : Ending} (h : TxR w w' O e) (hP : ∀ k, w.heap.size ≤ k → P k) : Ext w w' ∧ ∃ v, e = .returned v ∧ TxB w' P v O := by
 obtain ⟨hX, x, c, rfl, hC, hb⟩ := h;exact ⟨hX, _, rfl, x, c, rfl, hC, fun a ha => ⟨hP _ (hb a ha).1, (hb a ha).2⟩⟩
def kPut : ByteArray := ⟨#[112, 117, 116]⟩
def kDrop : ByteArray := ⟨#[100, 114, 111, 112]⟩
def kSync : ByteArray := ⟨#[115, 121, 110, 99]⟩
open Classical in
/-- what a change does to a model of a store -/
noncomputable def chg (L Ls : List Ck) (c : Ch) : List Ck × List Ck × Nat :=
 if c.kind = kPut then
  if ¬ isKey c.name then (L, Ls, 5) else if Tx.fnd L c.name = none ∧ 100 ≤ L.length then (L, Ls, 2) else (Tx.ins c.name c.text L, Ls, 0)
 else if c.kind = kDrop then if Tx.fnd L c.name = none then (L, Ls, 6) else (Tx.drp L c.name, Ls, 0)
 else if c.kind = kSync then (L, L, 0) else (L, Ls, 0)
def ChgP (w w' : World) (P : Nat → Prop) (r : List Ck × List Ck × Nat) (e : Ending) : Prop :=
 Ext w w' ∧ ∃ v1 v2, e = .returned (.tuple #[v1, v2, .int .i64 (r.2.2 : Int)]) ∧ TxB w' P v1 r.1 ∧ TxB w' P v2 r.2.1
theorem kneq {s : ByteArray} {l : List UInt8} (h : s ≠ ⟨l.toArray⟩) : (s.toList == l) = false := by
 rw [ByteArray.toList_eq];refine beq_eq_false_iff_ne.2 (fun e => h (dl_inj (by rw [e])))
theorem kisq (l : List UInt8) : ((⟨l.toArray⟩ : ByteArray).toList == l) = true := by rw [ByteArray.toList_eq]; simp
set_option linter.unusedSimpArgs false in
set_option maxHeartbeats 8000000 in
theorem change_any (v1 v2 : Value) (L Ls : List Ck) (c : Ch) (P : Nat → Prop) (w : World) (h1 : TxB w P v1 L) (h2 : TxB w P v2 Ls) (hP : ∀ k, w.heap.size ≤ k → P k) (hn : L.length ≤ 10000) (hz : c.name.size ≤ maxLen) :
  Calls Tryz.prog 15 #[v1, v2, chV c] w fun e w' => ChgP w w' P (chg L Ls c) e := by
 obtain ⟨r, hr⟩ : ∃ r, chg L Ls c = r := ⟨_, rfl⟩;rw [hr];obtain ⟨kd, nm, tx⟩ := c;unfold chg at hr;simp only at hr hz;obtain ⟨x1, c1, rfl, hC1, hb1⟩ := h1;have H1 : Hid (TxB w P (.slice x1 L.length c1) L) := Lib.hid ⟨x1, c1, rfl, hC1, hb1⟩;have H2 := Lib.hid h2;have HP := Lib.hid hP;have HC1 := Lib.hid hC1;have HR := Lib.hid hr;have HA : Hid (Ext w (w.alloc (.cells #[.string kd, .string nm, .string tx] 42))) := Lib.hid ((Ext.refl w).alloc _);unfold chV;clear h2 hP hC1 hb1 hr;by_cases q1 : kd = kPut
 ·subst q1;have t1 : (kPut.toList == [112, 117, 116]) = true := kisq _;go_enter Tryz.func15, Tryz.ntmps15
  go_wp2_with fail;refine (isKey_any nm _ hz).mono ?_;rintro e w2 ⟨⟨b, rfl, hb⟩, hw⟩;obtain ⟨wz, hwz⟩ : ∃ z, w.alloc (.cells #[.string kPut, .string nm, .string tx] 42) = z := ⟨_, rfl⟩;have B0 : Hid (Bk wz w.heap.size #[.string kPut, .string nm, .string tx]) := Lib.hid (by rw [← hwz]; exact Bk.at rfl);rw [hwz] at hw HA;subst hw;(try rw [hwz]);clear hwz;have c0 := B0.out.cell 0;have c1' := B0.out.cell 1;have c2' := B0.out.cell 2;cases b with
  | false =>
   have hk : ¬ isKey nm := fun q => by have := hb.2 q; cases this
   have HRR : Hid (r = (L, Ls, 5)) := Lib.hid (by rw [← HR.out]; simp [hk]);clear hk hb;go_wp2_with fail;go_ret3
   rw [HRR.out];exact ⟨HA.out, _, _, rfl, H1.out.ext HA.out, H2.out.ext HA.out⟩
  | true =>
   have hk : isKey nm := hb.1 rfl;have HRR : Hid (r = if Tx.fnd L nm = none ∧ 100 ≤ L.length then (L, Ls, 2) else (Tx.ins nm tx L, Ls, 0)) := Lib.hid (by rw [← HR.out]; simp [hk]);clear hk hb;go_wp2_with fail;refine (find_any x1 c1 L nm wz (HC1.out.ext HA.out) (by omega)).mono ?_;rintro e w3 ⟨hF, hw⟩;subst hw;rcases hF with ⟨hf, rfl⟩ | ⟨i, c, hc, hf, rfl⟩
   ·by_cases h100 : 100 ≤ L.length
    ·have HRR2 : Hid (r = (L, Ls, 2)) := Lib.hid (by rw [HRR.out, if_pos ⟨hf, h100⟩]);have t5 : (100 : Int) ≤ (L.length : Int) := by omega
     clear hf h100;go_wp2_with fail;go_ret3
     rw [HRR2.out];exact ⟨HA.out, _, _, rfl, H1.out.ext HA.out, H2.out.ext HA.out⟩
    ·have HRR2 : Hid (r = (Tx.ins nm tx L, Ls, 0)) := Lib.hid (by rw [HRR.out, if_neg (fun q => h100 q.2)]);have t5 : ¬ (100 : Int) ≤ (L.length : Int) := by omega
     clear hf h100;go_wp2_with fail;refine (putText_any x1 c1 L nm tx wz (HC1.out.ext HA.out) (by omega)).mono ?_;rintro e w4 hT;obtain ⟨hX, v, rfl, hB⟩ := TxB.of_row hT (fun k hk => HP.out k (Nat.le_trans HA.out.size hk));have HX4 := Lib.hid (HA.out.trans hX);have HB4 := Lib.hid hB;clear hT hX hB;go_wp2_with fail;go_ret3
     rw [HRR2.out];exact ⟨HX4.out, _, _, rfl, HB4.out, H2.out.ext HX4.out⟩
   ·have HRR2 : Hid (r = (Tx.ins nm tx L, Ls, 0)) := Lib.hid (by rw [HRR.out, if_neg (fun q => by rw [hf] at q; cases q.1)]);have t5 : ¬ (i : Int) < 0 := by omega
    clear hf hc;go_wp2_with fail;refine (putText_any x1 c1 L nm tx wz (HC1.out.ext HA.out) (by omega)).mono ?_;rintro e w4 hT;obtain ⟨hX, v, rfl, hB⟩ := TxB.of_row hT (fun k hk => HP.out k (Nat.le_trans HA.out.size hk));have HX4 := Lib.hid (HA.out.trans hX);have HB4 := Lib.hid hB;clear hT hX hB;go_wp2_with fail;go_ret3
    rw [HRR2.out];exact ⟨HX4.out, _, _, rfl, HB4.out, H2.out.ext HX4.out⟩
 ·have t1 : (kd.toList == [112, 117, 116]) = false := kneq q1;by_cases q2 : kd = kDrop
  ·subst q2;have t2 : (kDrop.toList == [100, 114, 111, 112]) = true := kisq _;have HRR : Hid (r = if Tx.fnd L nm = none then (L, Ls, 6) else (Tx.drp L nm, Ls, 0)) := Lib.hid (by rw [← HR.out]; simp [q1]);obtain ⟨wz, hwz⟩ : ∃ z, w.alloc (.cells #[.string kDrop, .string nm, .string tx] 42) = z := ⟨_, rfl⟩;have B0 : Hid (Bk wz w.heap.size #[.string kDrop, .string nm, .string tx]) := Lib.hid (by rw [← hwz]; exact Bk.at rfl);rw [hwz] at HA;have c0 := B0.out.cell 0;have c1' := B0.out.cell 1;have HFI := Lib.hid (find_any x1 c1 L nm wz (HC1.out.ext HA.out) (by omega));clear q1;go_enter Tryz.func15, Tryz.ntmps15
   go_wp2_with fail;(try rw [hwz]);clear hwz;refine HFI.out.mono ?_;rintro e w3 ⟨hF, hw⟩;subst hw;clear HFI;rcases hF with ⟨hf, rfl⟩ | ⟨i, c, hc, hf, rfl⟩
   ·have HRR2 : Hid (r = (L, Ls, 6)) := Lib.hid (by rw [HRR.out, if_pos hf]);clear hf;go_wp2_with fail;go_ret3
    rw [HRR2.out];exact ⟨HA.out, _, _, rfl, H1.out.ext HA.out, H2.out.ext HA.out⟩
   ·have HRR2 : Hid (r = (Tx.drp L nm, Ls, 0)) := Lib.hid (by rw [HRR.out, if_neg (fun q => by rw [hf] at q; cases q)]);have t5 : ¬ (i : Int) < 0 := by omega
    clear hf hc;go_wp2_with fail;refine (dropText_any x1 c1 L nm wz (HC1.out.ext HA.out) (by omega)).mono ?_;rintro e w4 hT;obtain ⟨hX, v, rfl, hB⟩ := TxB.of_row hT (fun k hk => HP.out k (Nat.le_trans HA.out.size hk));have HX4 := Lib.hid (HA.out.trans hX);have HB4 := Lib.hid hB;clear hT hX hB;go_wp2_with fail;go_ret3
    rw [HRR2.out];exact ⟨HX4.out, _, _, rfl, HB4.out, H2.out.ext HX4.out⟩
  ·have t2 : (kd.toList == [100, 114, 111, 112]) = false := kneq q2;by_cases q3 : kd = kSync
   ·subst q3;have t3 : (kSync.toList == [115, 121, 110, 99]) = true := kisq _;have HRR : Hid (r = (L, L, 0)) := Lib.hid (by rw [← HR.out]; simp [q1, q2]);clear q1 q2;go_enter Tryz.func15, Tryz.ntmps15
    go_wp2_with fail;go_ret3
    rw [HRR.out];exact ⟨HA.out, _, _, rfl, H1.out.ext HA.out, H1.out.ext HA.out⟩
   ·have t3 : (kd.toList == [115, 121, 110, 99]) = false := kneq q3;have HRR : Hid (r = (L, Ls, 0)) := Lib.hid (by rw [← HR.out]; simp [q1, q2, q3]);clear q1 q2 q3;go_enter Tryz.func15, Tryz.ntmps15
    go_wp2_with fail;go_ret3
    rw [HRR.out];exact ⟨HA.out, _, _, rfl, H1.out.ext HA.out, H2.out.ext HA.out⟩
end Go.Proofs.YtheidjagcafgnaaGreatDoor
namespace Go.Proofs.YtheidjagcafgnaaGreatDoor
open Go.RowKit
def chB (w : World) (c : Ch) : World := w.alloc (.cells #[.string c.kind, .string c.name, .string c.text] 42)
theorem chB_ext (w : World) (c : Ch) : Ext w (chB w c) := (Ext.refl w).alloc _
set_option linter.unusedSimpArgs false in
theorem do_put (s : Nat) (c : Ch) (w : World) (Q : Ending → World → Prop) (hk : c.kind = kPut) (hQ : ∀ e w', Q e w' → ∃ v, e = .returned v)
  (h : Calls Tryz.prog 11 #[.pointer (some ⟨s, 0, none⟩), .string c.name, .string c.text] (chB w c) Q) : Calls Tryz.prog 16 #[.pointer (some ⟨s, 0, none⟩), chV c] w Q := by
 obtain ⟨kd, nm, tx⟩ := c;simp only at hk;subst hk;have t1 : (kPut.toList == [112, 117, 116]) = true := kisq _;have HQ := Lib.hid hQ;unfold chB at h;simp only at h;have H := Lib.hid h;clear hQ h;unfold chV;go_enter Tryz.func16, Tryz.ntmps16
 go_wp2_with fail;refine H.out.mono ?_;rintro e w1 hq;obtain ⟨v, rfl⟩ := HQ.out e w1 hq;have HQQ := Lib.hid hq;clear hq;go_wp2_with fail;exact HQQ.out
set_option linter.unusedSimpArgs false in
theorem do_drop (s : Nat) (c : Ch) (w : World) (Q : Ending → World → Prop) (hk : c.kind = kDrop) (hQ : ∀ e w', Q e w' → ∃ v, e = .returned v)
  (h : Calls Tryz.prog 39 #[.pointer (some ⟨s, 0, none⟩), .string c.name] (chB w c) Q) : Calls Tryz.prog 16 #[.pointer (some ⟨s, 0, none⟩), chV c] w Q := by
 obtain ⟨kd, nm, tx⟩ := c;simp only at hk;subst hk;have t2 : (kDrop.toList == [100, 114, 111, 112]) = true := kisq _;have t1 : (kDrop.toList == [112, 117, 116]) = false := by decide +kernel
 have HQ := Lib.hid hQ;unfold chB at h;simp only at h;have H := Lib.hid h;clear hQ h;unfold chV;go_enter Tryz.func16, Tryz.ntmps16
 go_wp2_with fail;refine H.out.mono ?_;rintro e w1 hq;obtain ⟨v, rfl⟩ := HQ.out e w1 hq;have HQQ := Lib.hid hq;clear hq;go_wp2_with fail;exact HQQ.out
set_option linter.unusedSimpArgs false in
theorem do_sync (s : Nat) (c : Ch) (w : World) (Q : Ending → World → Prop) (hk : c.kind = kSync) (hQ : ∀ e w', Q e w' → ∃ v, e = .returned v)
  (h : Calls Tryz.prog 26 #[.pointer (some ⟨s, 0, none⟩)] (chB w c) Q) : Calls Tryz.prog 16 #[.pointer (some ⟨s, 0, none⟩), chV c] w Q := by
 obtain ⟨kd, nm, tx⟩ := c;simp only at hk;subst hk;have t3 : (kSync.toList == [115, 121, 110, 99]) = true := kisq _;have t2 : (kSync.toList == [100, 114, 111, 112]) = false := by decide +kernel
 have t1 : (kSync.toList == [112, 117, 116]) = false := by decide +kernel
 have HQ := Lib.hid hQ;unfold chB at h;simp only at h;have H := Lib.hid h;clear hQ h;unfold chV;go_enter Tryz.func16, Tryz.ntmps16
 go_wp2_with fail;refine H.out.mono ?_;rintro e w1 hq;obtain ⟨v, rfl⟩ := HQ.out e w1 hq;have HQQ := Lib.hid hq;clear hq;go_wp2_with fail;exact HQQ.out
set_option linter.unusedSimpArgs false in
theorem do_other (s : Nat) (c : Ch) (w : World) (q1 : c.kind ≠ kPut) (q2 : c.kind ≠ kDrop) (q3 : c.kind ≠ kSync) : Calls Tryz.prog 16 #[.pointer (some ⟨s, 0, none⟩), chV c] w fun e w' => e = .returned .nilIface ∧ Ext w w' := by
 obtain ⟨kd, nm, tx⟩ := c;simp only at q1 q2 q3;have t1 : (kd.toList == [112, 117, 116]) = false := kneq q1;have t2 : (kd.toList == [100, 114, 111, 112]) = false := kneq q2;have t3 : (kd.toList == [115, 121, 110, 99]) = false := kneq q3;have HX : Hid (Ext w (w.alloc (.cells #[.string kd, .string nm, .string tx] 42))) := Lib.hid ((Ext.refl w).alloc _);clear q1 q2 q3;unfold chV;go_enter Tryz.func16, Tryz.ntmps16
 go_wp2_with fail;go_ret;exact ⟨rfl, HX.out⟩
end Go.Proofs.YtheidjagcafgnaaGreatDoor
namespace Go.Proofs.YtheidjagcafgnaaGreatDoor
open Go.RowKit
/-- nothing is changed, and why -/
inductive DoW (n : Nat) (L : List Ck) (lost : Bool) (c : Ch) : Option Nat → Prop
 | lost : lost = true → (c.kind = kPut ∨ c.kind = kDrop ∨ c.kind = kSync) → DoW n L lost c (some 8)
 | name : lost = false → c.kind = kPut → ¬ isKey c.name → DoW n L lost c (some 4)
 | many : lost = false → c.kind = kPut → isKey c.name → tooMuch L c.name c.text → DoW n L lost c (some 1)
 | none : lost = false → c.kind = kDrop → Tx.fnd L c.name = Option.none → DoW n L lost c (some 5)
 | full : lost = false → c.kind = kSync → (n - 2) / 2 * 64 < (pkB L).size → DoW n L lost c (some 7)
 | other : c.kind ≠ kPut → c.kind ≠ kDrop → c.kind ≠ kSync → DoW n L lost c Option.none
def opV (E : Nat → Addr) : Option Nat → Value
 | some c => sentV (E c)
 | none => .nilIface
inductive DoP (w0 w : World) (E : Nat → Addr) (S : Nat → Prop) (s d mb n cn : Nat) (m : Dk.DM) (b : Nat) (L : List Ck) (sy hf : Nat) (lost : Bool) (c : Ch) : Ending → World → Prop
 | same {w' : World} (r : Option Nat) : DoW n L lost c r → LS w0 w' S s d mb n cn m b L sy hf lost → Ext w w' → DoP w0 w E S s d mb n cn m b L sy hf lost c (.returned (opV E r)) w'
 | put {w' : World} : lost = false → c.kind = kPut → isKey c.name → ¬ tooMuch L c.name c.text → LS w0 w' S s d mb n (cn + 1) m b (Tx.ins c.name c.text L) sy hf false → Keeps (fun k => k = mb) w w' →
   DoP w0 w E S s d mb n cn m b L sy hf lost c (.returned (opV E none)) w'
 | drop {w' : World} : lost = false → c.kind = kDrop → Tx.fnd L c.name ≠ none → LS w0 w' S s d mb n cn m b (Tx.drp L c.name) sy hf false → Keeps (fun k => k = mb) w w' →
   DoP w0 w E S s d mb n cn m b L sy hf lost c (.returned (opV E none)) w'
 | sync {w' : World} (m' : Dk.DM) (ok : Bool) (b' : Nat) : lost = false → c.kind = kSync → (pkB L).size ≤ (n - 2) / 2 * 64 →
   Sto4.SyncR m (pkB L) (2 + (1 - hf) * ((n - 2) / 2)) ((sy + 1) % 2) (Sto4.hd (sy + 1) (1 - hf) (pkB L).size (Crc.crc (pkB L).data.toList)) m' ok → b' ≤ b + 2001 → (ok = true → b' = 0) →
   LS w0 w' (grow S w w') s d mb n cn m' b' L (if ok then sy + 1 else sy) (if ok then 1 - hf else hf) (!ok) → Keeps (fun k => S k ∨ k = s) w w' →
   DoP w0 w E S s d mb n cn m b L sy hf lost c (.returned (opV E (if ok then none else some 8))) w'
theorem DoP.ret {w0 w : World} {E : Nat → Addr} {S : Nat → Prop} {s d mb n cn : Nat} {m : Dk.DM} {b : Nat} {L : List Ck} {sy hf : Nat} {lost : Bool} {c : Ch} {e : Ending} {w' : World} (h : DoP w0 w E S s d mb n cn m b L sy hf lost c e w') : ∃ v, e = .returned v := by
 cases h <;> exact ⟨_, rfl⟩
theorem LS.pos {w0 w : World} {S : Nat → Prop} {s d mb n cn : Nat} {m : Dk.DM} {b : Nat} {L : List Ck} {sy hf : Nat} {lost : Bool} (h : LS w0 w S s d mb n cn m b L sy hf lost) : mb < w.heap.size ∧ s < w.heap.size := by
 refine ⟨h.st.T.lt, ?_⟩;exact World.block_lt_of_cell? w _ (h.st.B.cell 1)
theorem do_any (w0 w : World) (E : Nat → Addr) (S : Nat → Prop) (s d mb n cn : Nat) (m : Dk.DM) (b : Nat) (L : List Ck) (sy hf : Nat) (lost : Bool) (c : Ch) (hE : Errs w0 E) (h : LS w0 w S s d mb n cn m b L sy hf lost)
  (hn : 8 ≤ n) (hf1 : hf ≤ 1) (hsy : sy ≤ 1000000) (hb : b ≤ 2500) (hcn : cn + 1 ≤ 100000) (hk : c.name.size ≤ 300000) (ht : c.text.size ≤ 300000) :
  Calls Tryz.prog 16 #[.pointer (some ⟨s, 0, none⟩), chV c] w (DoP w0 w E S s d mb n cn m b L sy hf lost c) := by
 have hX := chB_ext w c;have L1 := h.step hX;have hp := ps L1;have h30 : (300000 : Nat) ≤ maxLen := by decide
 have hkM : c.name.size ≤ maxLen := Nat.le_trans hk h30;have htM : c.text.size ≤ maxLen := Nat.le_trans ht h30;obtain ⟨hm1, hm2⟩ := h.pos;by_cases q1 : c.kind = kPut
 ·refine do_put s c w _ q1 (fun e w' q => q.ret) ?_;refine (put_any s mb cn L lost c.name c.text (chB w c) E (hE.ext L1.ext) hp.1 hp.2 L1.st.T L1.st.so (by omega) hkM htM).mono ?_;rintro e w' hP;unfold putE at hP;cases lost with
  | true =>
   rw [if_pos rfl] at hP;obtain ⟨rfl, hE1⟩ := hP;exact .same (some 8) (.lost rfl (.inl q1)) (L1.step hE1) (hX.trans hE1)
  | false =>
   rw [if_neg (by decide)] at hP;by_cases k1 : isKey c.name
   ·rw [if_neg (fun q => q k1)] at hP;by_cases k2 : tooMuch L c.name c.text
    ·rw [if_pos k2] at hP;obtain ⟨rfl, hE1⟩ := hP;exact .same (some 1) (.many rfl q1 k1 k2) (L1.step hE1) (hX.trans hE1)
    ·rw [if_neg k2] at hP;obtain ⟨rfl, hT, hK⟩ := hP;exact .put rfl q1 k1 k2 (L1.put hT hK hk ht hcn) (ext_keeps hX hK)
   ·rw [if_pos k1] at hP;obtain ⟨rfl, hE1⟩ := hP;exact .same (some 4) (.name rfl q1 k1) (L1.step hE1) (hX.trans hE1)
 by_cases q2 : c.kind = kDrop
 ·refine do_drop s c w _ q2 (fun e w' q => q.ret) ?_;cases lost with
  | true =>
   refine (drop_lost s c.name (chB w c) E (hE.ext L1.ext) hp.2).mono ?_;rintro e w' ⟨rfl, rfl⟩;exact .same (some 8) (.lost rfl (.inr (.inl q2))) L1 hX
  | false =>
   refine (drop_any s mb cn L c.name (chB w c) E (hE.ext L1.ext) hp.1 hp.2 L1.st.T hkM).mono ?_;rintro e w' hP;rcases hP with ⟨hf0, rfl, rfl⟩ | ⟨hf0, rfl, hT, hK, _⟩
   ·exact .same (some 5) (.none rfl q2 hf0) L1 hX
   ·exact .drop rfl q2 hf0 (L1.drop hT hK) (ext_keeps hX hK)
 by_cases q3 : c.kind = kSync
 ·refine do_sync s c w _ q3 (fun e w' q => q.ret) ?_;refine (sync_any w0.heap.size s d mb n cn m b L sy hf lost S (chB w c) E (hE.ext L1.ext) hE.low L1.st hn hf1 hsy hb).mono ?_;rintro e w' hP;unfold SyncP at hP;cases lost with
  | true =>
   rw [if_pos rfl] at hP;obtain ⟨rfl, hE1⟩ := hP;exact .same (some 8) (.lost rfl (.inr (.inr q3))) (L1.step hE1) (hX.trans hE1)
  | false =>
   rw [if_neg (by decide)] at hP;by_cases k1 : (n - 2) / 2 * 64 < (pkB L).size
   ·rw [if_pos k1] at hP;obtain ⟨rfl, hE1⟩ := hP;exact .same (some 7) (.full rfl q3 k1) (L1.step hE1) (hX.trans hE1)
   ·rw [if_neg k1] at hP;obtain ⟨m', ok, b', hR, hb', hb0, hS, hK, rfl⟩ := hP;have hL2 := L1.sync hS hK;have hsz := hX.size;have hS2 : LS w0 w' (grow S w w') s d mb n cn m' b' L (if ok then sy + 1 else sy) (if ok then 1 - hf else hf) (!ok) := by
     have g := hL2.st;have hlt : ∀ k, grow S w w' k → k < w'.heap.size := fun k q => by
      rcases q with q | q
      ·have := h.st.D.lt k q; have := hK.size; omega
      ·exact q.2
     exact ⟨⟨g.D.mono (fun k q => by
      rcases q with q | q
      ·exact .inl q
      ·exact .inr ⟨by omega, q.2⟩) hlt, g.B, g.T, g.so, g.sz, fun q => by
       rcases q with q | q
       ·exact h.st.ns q
       ·omega, fun q => by
       rcases q with q | q
       ·exact h.st.nm q
       ·omega, g.ne, fun k q => by
       rcases q with q | q
       ·exact h.st.lo k q
       ·have := h.ext.size; omega, g.los, g.lom, g.cnb⟩, hL2.ext⟩
    have e : opV E (if ok then none else some 8) = (if ok then .nilIface else sentV (E 8)) := by cases ok <;> rfl
    rw [← e];exact .sync m' ok b' rfl q3 (by omega) hR hb' hb0 hS2 (ext_keeps hX hK)
 ·refine (do_other s c w q1 q2 q3).mono ?_;rintro e w' ⟨rfl, hE1⟩;exact .same none (.other q1 q2 q3) (h.step hE1) hE1
end Go.Proofs.YtheidjagcafgnaaGreatDoor
