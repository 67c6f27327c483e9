/-
  A law's store beside its model: what a change does to both.
  Acts on a disk: rows of acts; few; act.
  layercakelaw4.act.
  What was flushed stays: the plain law. No function of the program is named.
  DiskKeeps' walk.
  coded: an error's number, without a place.
  StoreKeeps' walk.
  The document's Size of texts.
  StoreFull's walk.
  The package's errors, out of what a row lists.
  Arguments that are rows of acts, and rows of bools, opened.
  Arguments that are rows of changes, opened; how long their texts may be.
  The last step of every law's row, once: a call that returns true and turns nothing that was there meets the row's post.
-/
import Derived.Test.YtheidjagcafgnaaGreatDoorStoreFullG1
import Derived.Test.YtheidjagcafgnaaGreatDoorStoreFullG8
import Derived.Test.YtheidjagcafgnaaGreatDoorStoreFullG7
import Derived.Test.YtheidjagcafgnaaGreatDoorStoreFullG3
import Derived.Deep.LoopGhost
import Derived.Deep.RegionHeld3
import Derived.Test.YtheidjagcafgnaaGreatDoorStoreFullG2
import Derived.LaidHandle
import Derived.LaidSub
import Derived.Stop.LaidTwo
import Derived.Deep.Grids
import Derived.Lib.SmallJoins
import Derived.SizedLaws
import Derived.Test.YtheidjagcafgnaaGreatDoorRows
import Derived.ProofKit
import Derived.ShutString
import Derived.Below
import Derived.OpenShut
set_option linter.unusedSimpArgs false
set_option linter.unusedVariables false
set_option maxRecDepth 100000
namespace Go.Proofs.YtheidjagcafgnaaGreatDoor
open Go.RowKit
theorem add_blockS (a : Addr) (k : Nat) : (a.add k).block = a.block := by unfold Addr.add; split <;> rfl
theorem Cks.keeps {F : Nat → Prop} {w w' : World} {x : Option Addr} {L : List Ck} (h : Cks w x L) (hk : Keeps F w w') (hF : ∀ a, x = some a → ¬ F a.block) : Cks w' x L := by
 refine ⟨h.1, fun a ha i c hi => ?_⟩;obtain ⟨c0, c1⟩ := h.2 a ha i c hi;have hl : (a.add (i * 2)).block < w.heap.size := World.block_lt_of_cell? w _ c0;have hb : ¬ F (a.add (i * 2)).block := by rw [add_blockS]; exact hF a ha
 exact ⟨(hk.cell hl hb).trans c0, (hk.cell (p := ⟨_, _, none⟩) hl hb).trans c1⟩
theorem TxB.keeps {P P' F : Nat → Prop} {w w' : World} {v : Value} {L : List Ck} (h : TxB w P v L) (hk : Keeps F w w') (hF : ∀ k, P k → ¬ F k) (hP : ∀ k, P k → k < w.heap.size → P' k) : TxB w' P' v L := by
 obtain ⟨x, c, rfl, hC, hb⟩ := h;exact ⟨x, c, rfl, hC.keeps hk (fun a ha => hF _ (hb a ha).1), fun a ha => ⟨hP _ (hb a ha).1 (hb a ha).2, Nat.lt_of_lt_of_le (hb a ha).2 hk.size⟩⟩
theorem pkB_cons (c : Ck) (L : List Ck) : (pkB (c :: L)).size = 8 + c.k.size + c.d.size + (pkB L).size := by
 show (Sto4.pk (c :: L)).toArray.size = _ + (Sto4.pk L).toArray.size;rw [List.size_toArray, List.size_toArray];show (((Sto4.itm c.k ++ Sto4.itm c.d).data.toList) ++ Sto4.pk L).length = _;rw [List.length_append, dl_len, ByteArray.size_append, Sto4.itm_size, Sto4.itm_size];omega
theorem pkB_drp (L : List Ck) (k : ByteArray) : (pkB (Tx.drp L k)).size ≤ (pkB L).size := by
 induction L with
 | nil => exact Nat.le_refl _
 | cons c L ih =>
  have ih : (pkB (L.filter (fun c => decide (c.k ≠ k)))).size ≤ _ := ih;show (pkB ((c :: L).filter (fun c => decide (c.k ≠ k)))).size ≤ _;rw [List.filter_cons];split
  ·rw [pkB_cons, pkB_cons]; omega
  ·rw [pkB_cons]; omega
theorem pkB_ins (L : List Ck) (k t : ByteArray) : (pkB (Tx.ins k t L)).size ≤ (pkB L).size + (8 + k.size + t.size) := by
 induction L with
 | nil => show (pkB [⟨k, t⟩]).size ≤ _; rw [pkB_cons]; simp only; omega
 | cons c L ih =>
  unfold Tx.ins;split
  ·have := pkB_drp (c :: L) k;rw [pkB_cons]; simp only; omega
  ·rw [pkB_cons, pkB_cons]; omega
/-- a law's store (what it holds, what it has synced) on a disk with power -/
structure KM (w0 w : World) (S : Nat → Prop) (s d mb n cn : Nat) (m : Dk.DM) (b : Nat) (L Ls : List Ck) (sy hf i T : Nat) : Prop where
 ls : LS w0 w S s d mb n cn m b L sy hf false
 inv : Sto4.Inv m.now n sy hf Ls
 calm : Sto4.Calm m
 bb : b ≤ 2001
 cni : cn ≤ i
 syi : sy ≤ i + 1
 nm : ∀ c ∈ L, c.k.size ≤ 12
 nms : ∀ c ∈ Ls, c.k.size ≤ 12
 len : L.length ≤ i
 lens : Ls.length ≤ i
 tot : (pkB L).size ≤ T
 tots : (pkB Ls).size ≤ T
def opC : Option Nat → Nat
 | some c => c + 1
 | none => 0
theorem opV_err (w : World) (E : Nat → Addr) (r : Option Nat) (h : opC r ≤ 9) : ErrV w E (opV E r) ((opC r : Nat) : Int) (-1) := by
 cases r with
 | none => exact .nil
 | some c =>
  have h1 : c < 9 := h;have := ErrV.sent (w := w) (E := E) c h1;exact this
/-- what a change leaves beside its model -/
inductive KSt (w0 w : World) (E : Nat → Addr) (S : Nat → Prop) (s d mb n cn : Nat) (m : Dk.DM) (b : Nat) (L Ls : List Ck) (sy hf i T : Nat) (c : Ch) : Ending → World → Prop
 | fine {w' : World} (S' : Nat → Prop) (cn' : Nat) (m' : Dk.DM) (b' sy' hf' : Nat) (r : Option Nat) (L' Ls' : List Ck) : chg L Ls c = (L', Ls', opC r) → opC r ≤ 9 → r ≠ some 7 → r ≠ some 8 →
   KM w0 w' S' s d mb n cn' m' b' L' Ls' sy' hf' (i + 1) (T + 20 + c.text.size) →
   Keeps (fun k => S k ∨ k = s ∨ k = mb) w w' → (∀ k, S' k → S k ∨ w.heap.size ≤ k) → b' ≤ b → (m.left = -1 → m'.left = -1) →
   KSt w0 w E S s d mb n cn m b L Ls sy hf i T c (.returned (opV E r)) w'
 | full {w' : World} : c.kind = kSync → (n - 2) / 2 * 64 < (pkB L).size → KM w0 w' S s d mb n cn m b L Ls sy hf i T → Ext w w' → KSt w0 w E S s d mb n cn m b L Ls sy hf i T c (.returned (opV E (some 7))) w'
 | lost {w' : World} (S' : Nat → Prop) (m' : Dk.DM) (b' : Nat) : c.kind = kSync → m.left ≠ -1 → LS w0 w' S' s d mb n cn m' b' L sy hf true → b' ≤ b + 2001 →
   (∀ keep, Sto4.Inv (Dk.cr m' keep).now n sy hf Ls ∨ Sto4.Inv (Dk.cr m' keep).now n (sy + 1) (1 - hf) L) → Keeps (fun k => S k ∨ k = s ∨ k = mb) w w' → (∀ k, S' k → S k ∨ w.heap.size ≤ k) →
   KSt w0 w E S s d mb n cn m b L Ls sy hf i T c (.returned (opV E (some 8))) w'
theorem kPut_drop : kPut ≠ kDrop := by decide
theorem kSync_put : kSync ≠ kPut := by decide
theorem kSync_drop : kSync ≠ kDrop := by decide
section
variable {w0 w w' : World} {E : Nat → Addr} {S : Nat → Prop} {s d mb n cn : Nat} {m : Dk.DM} {b : Nat} {L Ls : List Ck} {sy hf i T : Nat} {c : Ch} {e : Ending}
theorem KM.up (h : KM w0 w S s d mb n cn m b L Ls sy hf i T) (hE : Ext w w') {i' T' : Nat} (hi : i ≤ i') (hT : T ≤ T') : KM w0 w' S s d mb n cn m b L Ls sy hf i' T' :=
 ⟨h.ls.step hE, h.inv, h.calm, h.bb, Nat.le_trans h.cni hi, by have := h.syi; omega, h.nm, h.nms, Nat.le_trans h.len hi, Nat.le_trans h.lens hi, Nat.le_trans h.tot hT, Nat.le_trans h.tots hT⟩
open Classical in
theorem chg_put (q : c.kind = kPut) : chg L Ls c = if ¬ isKey c.name then (L, Ls, 5) else if Tx.fnd L c.name = none ∧ 100 ≤ L.length then (L, Ls, 2) else (Tx.ins c.name c.text L, Ls, 0) := by unfold chg; rw [if_pos q]
theorem chg_drop (q : c.kind = kDrop) : chg L Ls c = if Tx.fnd L c.name = none then (L, Ls, 6) else (Tx.drp L c.name, Ls, 0) := by
 unfold chg;rw [if_neg (fun h => kPut_drop (h.symm.trans q)), if_pos q]
theorem chg_sync (q : c.kind = kSync) : chg L Ls c = (L, L, 0) := by
 unfold chg;rw [if_neg (fun h => kSync_put (q.symm.trans h)), if_neg (fun h => kSync_drop (q.symm.trans h)), if_pos q]
theorem KM.step (h : KM w0 w S s d mb n cn m b L Ls sy hf i T) (hP : DoP w0 w E S s d mb n cn m b L sy hf false c e w') (ht : c.text.size ≤ 8000) (hi : i ≤ 1000) : KSt w0 w E S s d mb n cn m b L Ls sy hf i T c e w' := by
 have hlt := h.ls.st.D.lt;cases hP with
 | same r hW hL hE =>
  have hK : Keeps (fun k => S k ∨ k = s ∨ k = mb) w w' := hE.keeps;have hR := h.up hE (Nat.le_succ i) (show T ≤ T + 20 + c.text.size by omega);cases hW with
  | lost q _ => cases q
  | name _ q k1 => exact .fine S cn m b sy hf (some 4) L Ls (by rw [chg_put q, if_pos k1]; rfl) (by decide) (by decide) (by decide) hR hK (fun k q => .inl q) (Nat.le_refl _) id
  | many _ q k1 k2 =>
   refine .fine S cn m b sy hf (some 1) L Ls ?_ (by decide) (by decide) (by decide) hR hK (fun k q => .inl q) (Nat.le_refl _) id;rw [chg_put q, if_neg (fun q => q k1), if_pos]
   ·rfl
   ·rcases k2 with k2 | k2
    ·omega
    ·exact k2
  | none _ q k1 => exact .fine S cn m b sy hf (some 5) L Ls (by rw [chg_drop q, if_pos k1]; rfl) (by decide) (by decide) (by decide) hR hK (fun k q => .inl q) (Nat.le_refl _) id
  | full _ q k1 => exact .full q k1 (h.up hE (Nat.le_refl _) (Nat.le_refl _)) hE
  | other q1 q2 q3 =>
   refine .fine S cn m b sy hf none L Ls ?_ (by decide) (by decide) (by decide) hR hK (fun k q => .inl q) (Nat.le_refl _) id;unfold chg;rw [if_neg q1, if_neg q2, if_neg q3];rfl
 | put _ q k1 k2 hL hK =>
  refine .fine S (cn + 1) m b sy hf none (Tx.ins c.name c.text L) Ls ?_ (by decide) (by decide) (by decide) ?_ (hK.mono (fun k _ q => .inr (.inr q))) (fun k q => .inl q) (Nat.le_refl _) id
  ·rw [chg_put q, if_neg (fun q => q k1), if_neg (fun q => k2 (.inr q))]; rfl
  ·have h1 := h.cni;have h2 := h.syi;have h3 := Tx.length_ins_le L c.name c.text;have h4 := h.len;have h5 := h.lens;have h6 := pkB_ins L c.name c.text;have h7 := h.tot;have h8 := h.tots;have h9 := k1.2.1;refine ⟨hL, h.inv, h.calm, h.bb, by omega, by omega, fun x hx => ?_, h.nms, by omega, by omega, by omega, by omega⟩;rcases Tx.mem_ins hx with rfl | hx
   ·exact h9
   ·exact h.nm x hx.1
 | drop _ q k1 hL hK =>
  refine .fine S cn m b sy hf none (Tx.drp L c.name) Ls ?_ (by decide) (by decide) (by decide) ?_ (hK.mono (fun k _ q => .inr (.inr q))) (fun k q => .inl q) (Nat.le_refl _) id
  ·rw [chg_drop q, if_neg k1]; rfl
  ·have h1 := h.cni;have h2 := h.syi;have h3 := Tx.length_drp_le L c.name;have h4 := h.len;have h5 := h.lens;have h6 := pkB_drp L c.name;have h7 := h.tot;have h8 := h.tots;exact ⟨hL, h.inv, h.calm, h.bb, by omega, by omega, fun x hx => h.nm x (Tx.mem_drp.1 hx).1, h.nms, by omega, by omega, by omega, by omega⟩
 | sync m' ok b' _ q hz hR hb hb0 hL hK =>
  have hK2 : Keeps (fun k => S k ∨ k = s ∨ k = mb) w w' := hK.mono (fun k _ q => by
   rcases q with q | q
   ·exact .inl q
   ·exact .inr (.inl q))
  have hgr : ∀ k, grow S w w' k → S k ∨ w.heap.size ≤ k := fun k q => by
   rcases q with q | q
   ·exact .inl q
   ·exact .inr q.1
  have h1 := h.cni;have h2 := h.syi;cases ok with
  | true =>
   have hok := Sto4.sync_ok hR h.inv hz h.ls.st.so h.ls.st.sz (by omega) rfl;refine .fine (grow S w w') cn m' b' (sy + 1) (1 - hf) none L L (chg_sync q) (by decide) (by decide) (by decide) ?_ hK2 hgr (by have := hb0 rfl; omega) (fun hl => ?_)
   ·have h4 := h.len;have h7 := h.tot;exact ⟨hL, hok.2, hok.1, by have := hb0 rfl; omega, by omega, by omega, h.nm, h.nm, by omega, by omega, by omega, by omega⟩
   ·have := (hR.sure hl).2;rw [this];show Dk.dec (Dk.dec (Dk.dec _)) = -1;rw [Sto4.wAt_left hl];rfl
  | false =>
   have hlo := Sto4.sync_lost hR h.inv h.calm hz h.ls.st.so h.ls.st.sz (by omega) rfl;refine .lost (grow S w w') m' b' q (fun hl => ?_) hL hb hlo.2 hK2 hgr;have := (hR.sure hl).1;cases this
end
end Go.Proofs.YtheidjagcafgnaaGreatDoor
namespace Go.Proofs.YtheidjagcafgnaaGreatDoor
open Go.RowKit
structure Ac where
  kind : ByteArray
  n : Int
  s : ByteArray
  kx : Option Addr
  kn : Nat
  kc : Nat
  kb : Nat → Bool
/-- a row of bools, wherever it lies -/
def Kp (w : World) (x : Option Addr) (n : Nat) (kb : Nat → Bool) : Prop := (x = none → n = 0) ∧ ∀ a, x = some a → ∀ j, j < n → w.cell? (a.add j) = some (.bool (kb j))
theorem Kp.ext {w w' : World} {x : Option Addr} {n : Nat} {kb : Nat → Bool} (h : Kp w x n kb) (hE : Ext w w') : Kp w' x n kb :=
  ⟨h.1, fun a ha j hj => by have h1 := h.2 a ha j hj; exact (hE.keeps (S := fun _ => False) |>.cell (World.block_lt_of_cell? w _ h1) id).trans h1⟩
structure Ac.Ok (w : World) (a : Ac) : Prop where
  n : -9223372036854775808 ≤ a.n ∧ a.n ≤ 9223372036854775807
  s : a.s.size ≤ 9223372036854775807
  kn : a.kn ≤ 9223372036854775807
  kp : Kp w a.kx a.kn a.kb
def Acs (w : World) (x : Option Addr) (n : Nat) (ac : Nat → Ac) : Prop :=
  (x = none → n = 0) ∧ ∀ a, x = some a → ∀ i, i < n →
    w.cell? (a.add (i * 4)) = some (.string (ac i).kind) ∧ w.cell? ⟨(a.add (i * 4)).block, (a.add (i * 4)).off + 1, none⟩ = some (.int .i64 (ac i).n) ∧
    w.cell? ⟨(a.add (i * 4)).block, (a.add (i * 4)).off + 2, none⟩ = some (.string (ac i).s) ∧ w.cell? ⟨(a.add (i * 4)).block, (a.add (i * 4)).off + 3, none⟩ = some (.slice (ac i).kx (ac i).kn (ac i).kc) ∧ (ac i).Ok w
theorem Acs.ext {w w' : World} {x : Option Addr} {n : Nat} {ac : Nat → Ac} (h : Acs w x n ac) (hE : Ext w w') : Acs w' x n ac := by
  refine ⟨h.1, fun a ha i hi => ?_⟩;obtain ⟨c0, c1, c2, c3, ok⟩ := h.2 a ha i hi;have K := hE.keeps (S := fun _ => False);have hl : (a.add (i * 4)).block < w.heap.size := World.block_lt_of_cell? w _ c0;exact ⟨(K.cell hl id).trans c0, (K.cell (p := ⟨_, _, none⟩) hl id).trans c1, (K.cell (p := ⟨_, _, none⟩) hl id).trans c2, (K.cell (p := ⟨_, _, none⟩) hl id).trans c3, ⟨ok.n, ok.s, ok.kn, ok.kp.ext hE⟩⟩
end Go.Proofs.YtheidjagcafgnaaGreatDoor
namespace Go.Proofs.YtheidjagcafgnaaGreatDoor
open Go.RowKit
theorem After.up {S : Nat → Prop} {w w' : World} {d n b c : Nat} {m : Dk.DM} (h : After S w w' d n m b) (hc : b ≤ c) : After S w w' d n m c := ⟨h.1.up hc, h.2⟩
theorem After.pre {S : Nat → Prop} {w w1 w' : World} {d n b : Nat} {m : Dk.DM} (hE : Ext w w1) (h : After S w1 w' d n m b) : After S w w' d n m b := by
  obtain ⟨h1, h2⟩ := h;obtain ⟨gk, ck, gn, cn, vw, hx⟩ := h1.ex;have e := hE.size;refine ⟨⟨⟨gk, ck, gn, cn, vw, hx.mono fun k q => ?_⟩, h1.ok, fun k q => ?_, h1.n1⟩, (hE.keeps (S := S)).trans h2 (fun _ _ q => q)⟩
  · rcases q with q | q
    · exact .inl q
    · exact .inr ⟨by omega, q.2⟩
  · rcases q with q | q
    · exact h1.lt k (.inl q)
    · exact q.2
end Go.Proofs.YtheidjagcafgnaaGreatDoor
namespace Go.Proofs.YtheidjagcafgnaaGreatDoor
open Go.RowKit
def KI (n : Nat) (was : Nat → ByteArray) (tb : Nat → Bool) (m : Dk.DM) : Prop := ∀ i, i < n → tb i = false → m.kept i = was i ∧ m.now i = was i ∧ ∀ p ∈ m.ws, p.1 ≠ i
theorem crk_ne {keep : Nat → Bool} {ws : List (Nat × ByteArray)} {f : Nat → ByteArray} {i : Nat} (h : ∀ p ∈ ws, p.1 ≠ i) : ∀ k, Dk.crk keep ws f k i = f i := by
  intro k;induction k with
  | zero => rfl
  | succ k ih =>
    simp only [Dk.crk];cases hp : ws[k]? with
    | none => exact ih
    | some p =>
      simp only;split
      · unfold Dk.upS;rw [if_neg (fun e => h p (List.mem_of_getElem? hp) e.symm)];exact ih
      · exact ih
theorem KI.cr {n : Nat} {was : Nat → ByteArray} {tb : Nat → Bool} {m : Dk.DM} (h : KI n was tb m) (keep : Nat → Bool) : KI n was tb (Dk.cr m keep) := by
  intro i hi ht;obtain ⟨h1, h2, h3⟩ := h i hi ht;have e : Dk.crk keep m.ws m.kept m.ws.length i = was i := (crk_ne h3 _).trans h1;exact ⟨e, e, fun p hp => by cases hp⟩
end Go.Proofs.YtheidjagcafgnaaGreatDoor
namespace Go.Proofs.YtheidjagcafgnaaGreatDoor
open Go.RowKit
/-- the disk of a law: where it lies, and what lay there ahead of it -/
structure LD (w0 w : World) (S : Nat → Prop) (d n : Nat) (m : Dk.DM) (b : Nat) : Prop where
  ds : DS w S d n m b
  ext : Ext w0 w
  ge : ∀ k, S k → w0.heap.size ≤ k
theorem LD.step {w0 w w' : World} {S : Nat → Prop} {d n b : Nat} {m : Dk.DM} (h : LD w0 w S d n m b) (hE : Ext w w') : LD w0 w' S d n m b := ⟨h.ds.ext hE, h.ext.trans hE, h.ge⟩
/-- a store into a block that is not the disk's -/
theorem LD.far {w0 w : World} {S : Nat → Prop} {d n b g i : Nat} {m : Dk.DM} {u : Value} (h : LD w0 w S d n m b) (hg : ¬ S g) (hw : w0.heap.size ≤ g) : LD w0 (w.setCell ⟨g, i, none⟩ u) S d n m b :=
  ⟨h.ds.keeps (one_keeps w g i u) (fun _ q e => hg (e ▸ q)), Below.setCell h.ext hw _, h.ge⟩
end Go.Proofs.YtheidjagcafgnaaGreatDoor
namespace Go.Proofs.YtheidjagcafgnaaGreatDoor
open Go.RowKit
theorem coded_any (w : World) (E : Nat → Addr) (hE : Errs w E) (v : Value) (c a n : Int) (h : ErrV w E v c a) : Calls Tryz.prog 13 #[v, .int .i64 n] w fun e w' => e = .returned (.bool (decide (c = n ∧ a = -1))) ∧ Ext w w' := by
  by_cases hc : c = n
  · subst hc;go_enter Tryz.func13, Tryz.ntmps13
    go_wp2_with fail;refine (code_any _ E hE _ _ _ h).mono ?_;rintro e w2 ⟨rfl, h2⟩;go_wp2_with fail;go_ret;exact ⟨ret_bool (by rw [Bool.eq_iff_iff]; simp), h2⟩
  · have t1 : (c == n) = false := beq_eq_false_iff_ne.2 hc;go_enter Tryz.func13, Tryz.ntmps13
    go_wp2_with fail;refine (code_any _ E hE _ _ _ h).mono ?_;rintro e w2 ⟨rfl, h2⟩;go_wp2_with fail;go_ret;exact ⟨ret_bool (by rw [Bool.eq_iff_iff]; simp [hc]), h2⟩
end Go.Proofs.YtheidjagcafgnaaGreatDoor
namespace Go.Proofs.YtheidjagcafgnaaGreatDoor
open Go.RowKit
/-- off the store's blocks -/
def offS (S : Nat → Prop) (s mb k : Nat) : Prop := ¬ S k ∧ k ≠ s ∧ k ≠ mb
theorem LS.off {w0 w : World} {S : Nat → Prop} {s d mb n cn : Nat} {m : Dk.DM} {b : Nat} {L : List Ck} {sy hf : Nat} {lost : Bool} (h : LS w0 w S s d mb n cn m b L sy hf lost) : ∀ k, w.heap.size ≤ k → offS S s mb k := by
  obtain ⟨h1, h2⟩ := h.pos;exact fun k hk => ⟨fun q => by have := h.st.D.lt k q; omega, by omega, by omega⟩
theorem TxB.step {S S' : Nat → Prop} {s mb : Nat} {w w' : World} {v : Value} {L : List Ck} (h : TxB w (offS S s mb) v L) (hk : Keeps (fun k => S k ∨ k = s ∨ k = mb) w w') (hS : ∀ k, S' k → S k ∨ w.heap.size ≤ k) : TxB w' (offS S' s mb) v L :=
  h.keeps hk (fun k q e => by
    rcases e with e | e | e
    · exact q.1 e
    · exact q.2.1 e
    · exact q.2.2 e) (fun k q hlt => ⟨fun e => by
    rcases hS k e with e | e
    · exact q.1 e
    · omega, q.2.1, q.2.2⟩)
theorem KM.fmtd {w0 w : World} {S : Nat → Prop} {s d mb n : Nat} {m : Dk.DM} (h : LS w0 w S s d mb n 0 (Sto4.fmt m) 0 [] 1 1 false) (hI : Sto4.Calm (Sto4.fmt m) ∧ Sto4.Inv (Sto4.fmt m).now n 1 1 []) : KM w0 w S s d mb n 0 (Sto4.fmt m) 0 [] [] 1 1 0 0 :=
  ⟨h, hI.2, hI.1, by omega, by omega, by omega, (fun c hc => by cases hc), (fun c hc => by cases hc), Nat.le_refl _, Nat.le_refl _, Nat.le_refl _, Nat.le_refl _⟩
theorem fmt_left {m : Dk.DM} (h : m.left = -1) : (Sto4.fmt m).left = -1 := by
  show Dk.dec (Dk.dec (Dk.dec (Dk.dec _))) = -1;rw [Sto4.wipe_left h];rfl
theorem chV_lit (c : Ch) : chV c = .agg #[.string c.kind, .string c.name, .string c.text] := rfl
end Go.Proofs.YtheidjagcafgnaaGreatDoor
namespace Go.Proofs.YtheidjagcafgnaaGreatDoor
open Go.RowKit
def szU (L : List Ck) : Nat → Nat
 | 0 => 64
 | k + 1 => szU L k + 32 + ((L[k]?).map (fun c => c.d.size)).getD 0
theorem szU_le {L : List Ck} (h : ∀ c ∈ L, c.d.size ≤ 300000) : ∀ k, szU L k ≤ 64 + k * 300032
 | 0 => by show 64 ≤ _; omega
 | k + 1 => by
  have := szU_le h k;show szU L k + 32 + ((L[k]?).map (fun c => c.d.size)).getD 0 ≤ _;cases e : L[k]? with
  | none => simp only [Option.map_none, Option.getD_none]; omega
  | some c =>
   have := h c (List.mem_of_getElem? e);simp only [Option.map_some, Option.getD_some]; omega
theorem pkB_snoc (L : List Ck) (c : Ck) : (pkB (L ++ [c])).size = (pkB L).size + (8 + c.k.size + c.d.size) := by
 induction L with
 | nil => rw [List.nil_append, pkB_cons]; rw [Nat.add_comm]
 | cons x L ih => rw [List.cons_append, pkB_cons, pkB_cons, ih]; omega
theorem szU_pk {L : List Ck} (h : ∀ c ∈ L, c.k.size ≤ 12) : ∀ k, (pkB (L.take k)).size + 64 ≤ szU L k
 | 0 => by rw [List.take_zero]; show (pkB []).size + 64 ≤ 64; exact Nat.le_refl _
 | k + 1 => by
  have := szU_pk h k;show _ ≤ szU L k + 32 + ((L[k]?).map (fun c => c.d.size)).getD 0;rw [List.take_add_one];cases e : L[k]? with
  | none => simp only [Option.map_none, Option.getD_none, Option.toList_none, List.append_nil]; omega
  | some c =>
   have := h c (List.mem_of_getElem? e);simp only [Option.map_some, Option.getD_some, Option.toList_some, pkB_snoc]; omega
set_option maxHeartbeats 4000000 in
theorem size_any (x : Option Addr) (cap : Nat) (L : List Ck) (w : World) (hx : Cks w x L) (hn : L.length ≤ 100000) (hz : ∀ c ∈ L, c.d.size ≤ 300000) :
  Calls Tryz.prog 17 #[.slice x L.length cap] w fun e w' => e = .returned (.int .i64 ((szU L L.length : Nat) : Int)) ∧ w = w' := by
 have HX := Lib.hid hx;have HZ := Lib.hid (szU_le hz);clear hx hz;obtain ⟨n, hn0⟩ : ∃ n, L.length = n := ⟨_, rfl⟩;have HN := Lib.hid hn0;rw [hn0] at hn ⊢;clear hn0;go_enter Tryz.func17, Tryz.ntmps17
 go_wp2_with fail;go_loop [3, 4] (fun s cc => ∃ (i : Nat), i ≤ n ∧ cc = .int .i64 (i : Int) ∧ s = .int .i64 ((szU L i : Nat) : Int)) (fun _ cc => n - (intOf cc).toNat)
 case atStart => exact ⟨0, by omega, rfl, rfl⟩
 case round =>
  obtain ⟨i, hi, rfl, rfl⟩ := hrel;by_cases hlt : i < n
  ·have ht : (i : Int) < (n : Int) := by omega
   obtain ⟨a, rfl⟩ := HX.out.isSome (i := i) (by rw [HN.out]; exact hlt);obtain ⟨c, hc⟩ : ∃ c, L[i]? = some c := ⟨_, List.getElem?_eq_getElem (by rw [HN.out]; exact hlt)⟩;obtain ⟨c0, c1⟩ := HX.out.2 a rfl i c hc;obtain ⟨ck, cd⟩ := c;simp only at c0 c1;have h1 : szU L (i + 1) = szU L i + 32 + cd.size := by
    show szU L i + 32 + ((L[i]?).map (fun c => c.d.size)).getD 0 = _;rw [hc]; rfl
   have h2 := HZ.out (i + 1);rw [h1] at h2;obtain ⟨u, hu⟩ : ∃ u, szU L i = u := ⟨_, rfl⟩;rw [hu] at h1 h2 ⊢;have w1 : ∀ z, z = (u : Int) + 32 → IntKind.i64.wrap z = z := by rintro _ rfl; rw [IntKind.wrap_i64]; omega
   have w2 : ∀ z, z = (u : Int) + 32 + (cd.size : Int) → IntKind.i64.wrap z = z := by rintro _ rfl; rw [IntKind.wrap_i64]; omega
   have wi : ∀ z, z = (i : Int) + 1 → IntKind.i64.wrap z = z := by rintro _ rfl; rw [IntKind.wrap_i64]; omega
   have H1 : Hid (((szU L (i + 1) : Nat) : Int) = (u : Int) + 32 + (cd.size : Int)) := Lib.hid (by rw [h1]; push_cast; rfl);clear h1 h2 c0 hc hu;go_wp2_with fail;go_round
   case rel => exact ⟨i + 1, by omega, by go_num, by rw [H1.out]; try go_num⟩
   case measure => simp [intOf]; omega
  ·obtain rfl : i = n := by omega
   have ht : ¬ (i : Int) < (i : Int) := by omega
   go_wp2_with fail;go_ret;exact ⟨rfl, rfl⟩
end Go.Proofs.YtheidjagcafgnaaGreatDoor
namespace Go.Proofs.YtheidjagcafgnaaGreatDoor
open Go.RowKit
set_option linter.unusedSimpArgs false in
set_option maxHeartbeats 16000000 in
theorem storeFull_any (sectors : Int) (x : Option Addr) (n cap : Nat) (ch : Nat → Ch) (w : World) (E : Nat → Addr) (hE : Errs w E) (hx : Chs w x n ch) (hn : n ≤ maxLen) (hz : ∀ i, i < n → (ch i).text.size ≤ 140737488355328) :
  Calls Tryz.prog 4 #[.int .i64 sectors, .slice x n cap] w fun e w' => e = .returned (.bool true) ∧ Ext w w' := by
 have HE := Lib.hid hE;have HX := Lib.hid hx;have HZ := Lib.hid hz;clear hE hx hz;go_enter Tryz.func4, Tryz.ntmps4
 go_wp2_with fail;refine (hold_any w E HE.out).mono ?_;rintro e w1 ⟨rfl, hX⟩;have X1 := Lib.hid hX;clear hX;go_wp2_with fail;refine (light_any x n cap ch w1 (HX.out.ext X1.out) hn HZ.out).mono ?_;rintro e w2 ⟨⟨b1, rfl, hb1⟩, hw2⟩;obtain rfl := hw2;cases b1
 ·go_wp2_with fail;go_ret;exact ⟨rfl, X1.out⟩
 have FL := Lib.hid (hb1 rfl);clear hb1 hn HZ;by_cases q1 : sectors < 1
 ·have t1 : decide (sectors < 1) = true := decide_eq_true q1;go_wp2_with fail;go_ret;exact ⟨rfl, X1.out⟩
 have t1 : decide (sectors < 1) = false := decide_eq_false q1;by_cases q2 : 400 < sectors
 ·have t2 : decide (400 < sectors) = true := decide_eq_true q2;go_wp2_with fail;go_ret;exact ⟨rfl, X1.out⟩
 have t2 : decide (400 < sectors) = false := decide_eq_false q2;obtain ⟨N, rfl⟩ : ∃ N : Nat, sectors = N := ⟨sectors.toNat, by omega⟩;have hN1 : 1 ≤ N ∧ N ≤ 400 := by omega
 clear q1 q2;go_wp2_with fail;refine (new_ok N w1 (by omega)).mono ?_;rintro e w3 ⟨⟨d, rfl, hd⟩, hX⟩;have D3 := Lib.hid (show LD w w3 _ d N Dk.new 0 from ⟨hd, X1.out.trans hX, fun k q => Nat.le_trans X1.out.size q.1⟩);clear hX hd X1 t1 t2;go_wp2_with fail;refine (format_any w.heap.size d N 0 Dk.new _ w3 E (HE.out.ext D3.out.ext) HE.out.low HE.out.lowT D3.out.ds D3.out.ge D3.out.ext.size rfl (by omega)).mono ?_;rintro e w4 hP;unfold FmtP at hP;by_cases hN8 : N < 8
 ·rw [if_pos hN8] at hP;obtain ⟨rfl, hX⟩ := hP;have D4 := Lib.hid (D3.out.step hX);have s1 : (N : Int) < 8 := by omega
  have HCD := Lib.hid (coded_any w4 E (HE.out.ext D4.out.ext) _ _ _ 8 (ErrV.sent 7 (by decide)));clear hX D3 hN8;go_wp2_with fail;refine HCD.out.mono ?_;rintro e w5 ⟨rfl, hX⟩;have X5 := Lib.hid (D4.out.ext.trans hX);clear hX HCD D4;go_wp2_with fail;go_ret;exact ⟨rfl, X5.out⟩
 rw [if_neg hN8] at hP;have s1 : ¬ (N : Int) < 8 := by omega
 have hN : 8 ≤ N ∧ N ≤ 400 := by omega
 clear hN8 hN1;obtain ⟨s, mb, S0, rfl, hS, _, _, h1, h2, hK⟩ := hP;have K4 := Lib.hid (KM.fmtd (show LS w w4 S0 s d mb N 0 (Sto4.fmt Dk.new) 0 [] 1 1 false from ⟨hS, LS.keep D3.out.ext hK D3.out.ge⟩) (Sto4.fmt_inv (m := Dk.new) (n := N) (fun k _ => zB_size 64) (by omega) (by omega)));clear hS hK h1 h2 D3;have hn60 : n ≤ 60 := FL.out.1.1;go_wp2_with fail;go_loopw [9, 10, 11] (fun z1 z2 cc wr => ∃ (v1 v2 : Value) (i : Nat) (S : Nat → Prop) (cn : Nat) (m : Dk.DM) (b : Nat) (L Ls : List Ck) (sy hf T : Nat), v1 = z1 ∧ v2 = z2 ∧ i ≤ n ∧ cc = .int .i64 (i : Int) ∧ Hid (KM w wr S s d mb N cn m b L Ls sy hf i T) ∧ Hid (m.left = -1) ∧
  Hid (TxB wr (offS S s mb) v1 L) ∧ Hid (TxB wr (offS S s mb) v2 Ls)) (fun _ _ cc _ => n - (intOf cc).toNat)
 case atStart => exact ⟨_, _, 0, _, _, _, _, _, _, _, _, _, rfl, rfl, by omega, rfl, K4, Lib.hid (fmt_left rfl), Lib.hid (TxB.nil _ _), Lib.hid (TxB.nil _ _)⟩
 case round =>
  clear K4;obtain ⟨v1, v2, i, S, cn, m, b, L, Ls, sy, hf, T, rfl, rfl, hi, rfl, HK, HL, HT1, HT2⟩ := hrel;by_cases hlt : i < n
  ·as_aux_lemma =>
    have ht : (i : Int) < (n : Int) := by omega
    obtain ⟨a, rfl⟩ : ∃ a, x = some a := by
     cases x with
     | none => have := HX.out.1 rfl; omega
     | some a => exact ⟨a, rfl⟩
    obtain ⟨c0, c1, c2⟩ := (HX.out.ext HK.out.ls.ext).2 a rfl i hlt;have wi : ∀ z, z = (i : Int) + 1 → IntKind.i64.wrap z = z := by rintro _ rfl; rw [IntKind.wrap_i64]; omega
    have hc1 := FL.out.1.2 i hlt;have HCH := Lib.hid (change_any v1 v2 L Ls (ch i) (offS S s mb) wr HT1.out HT2.out HK.out.ls.off (by have := HK.out.len; omega) (by unfold maxLen; omega));rw [chV_lit] at HCH;have HC1 := Lib.hid hc1;clear hc1;go_wp2_with fail;refine HCH.out.mono ?_;rintro e w5 ⟨hX, u1, u2, rfl, hT1, hT2⟩;have HX5 := Lib.hid hX;have K5 := Lib.hid (HK.out.up hX (Nat.le_refl _) (Nat.le_refl _));have U1 := Lib.hid hT1;have U2 := Lib.hid hT2;have HO1 := Lib.hid (HT1.out.ext hX);have HO2 := Lib.hid (HT2.out.ext hX);clear hX hT1 hT2 HCH c0 c1 c2 HT1 HT2 HK;obtain ⟨c0, c1, c2⟩ := (HX.out.ext K5.out.ls.ext).2 a rfl i hlt;have HDO := Lib.hid (do_any w w5 E S s d mb N cn m b L sy hf false (ch i) HE.out K5.out.ls (by omega) K5.out.inv.hf1 (by have := K5.out.syi; omega) (by have := K5.out.bb; omega) (by have := K5.out.cni; omega) (by have := HC1.out; omega) (by have := HC1.out; omega));rw [chV_lit] at HDO;obtain ⟨ec, hec⟩ : ∃ z, (chg L Ls (ch i)).2.2 = z := ⟨_, rfl⟩;rw [hec];have HEC := Lib.hid hec;clear hec;go_wp2_with fail;refine HDO.out.mono ?_;intro e w6 hP;have hst := K5.out.step hP HC1.out.2 (by omega);clear hP HDO c0 c1 c2;cases hst with
    | full q hfu hKR hX =>
     have K6 := Lib.hid hKR;have V1 := Lib.hid (HO1.out.ext hX);have V2 := Lib.hid (HO2.out.ext hX);have t3 : ((ch i).kind.toList == [115, 121, 110, 99]) = true := by rw [q]; exact kisq _
     have HCD := Lib.hid (coded_any w6 E (HE.out.ext K6.out.ls.ext) _ _ _ 8 (opV_err w6 E (some 7) (by decide)));obtain ⟨y1, p1, rfl, hC, hbk⟩ := V1.out;have VC := Lib.hid hC;have HSZ := szU_pk (L := L) K6.out.nm L.length;rw [List.take_length] at HSZ;have HSB := szU_le (L := L) (fun c hc => (K6.out.ls.st.sz c hc).2) L.length;have hln := K6.out.len;obtain ⟨ss, hss⟩ : ∃ z, szU L L.length = z := ⟨_, rfl⟩;have HSS := Lib.hid hss;rw [hss] at HSZ HSB;have x1 : ∀ z, z = (3 : Int) * (ss : Int) → IntKind.i64.wrap z = z := by
      rintro _ rfl;have : L.length * 300032 ≤ 1000 * 300032 := Nat.mul_le_mul_right _ (by omega);rw [IntKind.wrap_i64]; omega
     have x2 : ∀ z, z = (N : Int) * 64 → IntKind.i64.wrap z = z := by rintro _ rfl; rw [IntKind.wrap_i64]; omega
     have x3 : ¬ (3 : Int) * (ss : Int) ≤ (N : Int) * 64 := by omega
     have x4 : ¬ 3 * ss ≤ N * 64 := by omega
     obtain ⟨c0, c1, c2⟩ := (HX.out.ext K6.out.ls.ext).2 a rfl i hlt;clear hKR hX q hfu hC hbk HSZ HSB hln hss U1 U2 HO1 HO2 HEC K5 c1 c2;go_wp2_with fail;refine HCD.out.mono ?_;rintro e w7 ⟨rfl, hX⟩;have K7 := Lib.hid (K6.out.up hX (Nat.le_refl _) (Nat.le_refl _));have W1 := Lib.hid (V1.out.ext hX);have W2 := Lib.hid (V2.out.ext hX);have VC7 := Lib.hid (VC.out.ext hX);obtain ⟨c0, c1, c2⟩ := (HX.out.ext K7.out.ls.ext).2 a rfl i hlt;clear hX HCD K6 V1 V2 VC c1 c2;go_wp2_with fail;refine (size_any y1 p1 L w7 VC7.out (by have := K7.out.len; omega) (fun c hc => (K7.out.ls.st.sz c hc).2)).mono ?_;rintro e w9 ⟨rfl, hw⟩;subst hw;rw [HSS.out];go_wp2_with fail;refine (holds_any y1 p1 L w w7 S s d mb N cn m b L sy hf false E HE.out K7.out.ls VC7.out (by have := K7.out.len; omega) (fun c hc => by have := K7.out.nm c hc; unfold maxLen; omega) (by have := K7.out.len; omega)).mono ?_;rintro e w8 ⟨hH, hX⟩;obtain rfl : e = .returned (.bool true) := by
      rcases hH with ⟨_, h⟩ | ⟨h, _⟩
      ·exact h
      ·exact absurd rfl h
     have K8 := Lib.hid (K7.out.up hX (Nat.le_succ i) (Nat.le_refl _));have W1' := Lib.hid (W1.out.ext hX);have W2' := Lib.hid (W2.out.ext hX);clear hX hH K7 W1 W2 VC7;go_wp2_with fail;go_roundw
     case rel => exact ⟨_, _, i + 1, S, cn, m, b, L, Ls, sy, hf, _, rfl, rfl, by omega, by go_num, K8, HL, W1', W2'⟩
     case measure => simp [intOf]; omega
    | lost S' m' b' q hl => exact absurd HL.out hl
    | fine S' cn' m' b' sy' hf' r L' Ls' hch hr9 hr7 hr8 hKR hKp hS' hb' hl' =>
     obtain rfl : ec = opC r := by rw [← HEC.out, hch]
     rw [hch] at U1 U2;have K6 := Lib.hid hKR;have U1' := Lib.hid (U1.out.step hKp hS');have U2' := Lib.hid (U2.out.step hKp hS');have HL6 := Lib.hid (hl' HL.out);have HCD8 : Hid (Calls Tryz.prog 13 #[opV E r, .int .i64 8] w6 fun e w' => e = .returned (.bool false) ∧ Ext w6 w') := Lib.hid ((coded_any w6 E (HE.out.ext K6.out.ls.ext) _ _ _ 8 (opV_err w6 E r hr9)).mono (by
      rintro e w' ⟨rfl, hX⟩;refine ⟨?_, hX⟩;have : ¬ ((opC r : Int) = 8 ∧ (-1 : Int) = -1) := fun q => hr7 (by
       have h8 : opC r = 8 := by have := q.1; omega
       cases r with
       | none => cases h8
       | some c => exact congrArg some (by have : c + 1 = 8 := h8; omega))
      rw [decide_eq_false this]))
     have HCD : Hid (∀ wz, Ext w6 wz → Calls Tryz.prog 13 #[opV E r, .int .i64 (opC r : Int)] wz fun e w' => e = .returned (.bool true) ∧ Ext wz w') := Lib.hid (fun wz hz => (coded_any wz E (HE.out.ext (K6.out.ls.ext.trans hz)) _ _ _ (opC r : Int) (opV_err wz E r hr9)).mono (by
      rintro e w' ⟨rfl, hX⟩;exact ⟨by rw [decide_eq_true ⟨rfl, rfl⟩], hX⟩))
     obtain ⟨rv, hrv⟩ : ∃ z, opV E r = z := ⟨_, rfl⟩;rw [hrv] at HCD HCD8 ⊢;obtain ⟨rc, hrc⟩ : ∃ z : Int, (opC r : Int) = z := ⟨_, rfl⟩;rw [hrc] at HCD ⊢;clear hrv hrc hch hr9 hr7 hr8 hKR hKp hS' hb' hl' U1 U2 HEC HL K5 HO1 HO2;go_wp2_with fail;refine HCD8.out.mono ?_;rintro e w8 ⟨rfl, hX8⟩;have HX8 := Lib.hid hX8;clear hX8 HCD8;go_wp2_with fail;refine (HCD.out w8 HX8.out).mono ?_;rintro e w7 ⟨rfl, hX⟩;have K7 := Lib.hid (K6.out.up (HX8.out.trans hX) (Nat.le_refl _) (Nat.le_refl _));have V1 := Lib.hid (U1'.out.ext (HX8.out.trans hX));have V2 := Lib.hid (U2'.out.ext (HX8.out.trans hX));clear hX HCD K6 U1' U2' HX8;go_wp2_with fail;go_roundw
     case rel => exact ⟨_, _, i + 1, S', cn', m', b', L', Ls', sy', hf', _, rfl, rfl, by omega, by go_num, K7, HL6, V1, V2⟩
     case measure => simp [intOf]; omega
  ·as_aux_lemma =>
    obtain rfl : i = n := by omega
    have ht : ¬ (i : Int) < (i : Int) := by omega
    obtain ⟨y2, p2, rfl, hC2, hbk2⟩ := HT2.out;have VC2 := Lib.hid hC2;clear hC2 hbk2 HT1 HT2;have HB : Hid (Ls.length ≤ 100000 ∧ ∀ c ∈ Ls, c.k.size ≤ maxLen) := Lib.hid ⟨by have := HK.out.lens; omega, fun c hc => by have := HK.out.nms c hc; unfold maxLen; omega⟩;go_wp2_with fail;refine (open_any d N _ _ _ wr E (HE.out.ext HK.out.ls.ext) HK.out.ls.st.D hN.1 (fun k hk => HK.out.inv.all k hk)).mono ?_;rintro e w10 hP;rw [HK.out.inv.opens] at hP;obtain ⟨hX, s', mb', rfl, hB, hT, h1, h2, h3⟩ := hP;have L10 := Lib.hid (LS.opened HK.out.ls.ext hX HK.out.ls.st.D HK.out.ls.st.lo hB hT h1 h2 h3 HB.out.1 HK.out.inv.it HK.out.inv.so);have X10 := Lib.hid (VC2.out.ext hX);clear hX hB hT h1 h2 h3 HK;go_wp2_with fail;refine (holds_any y2 p2 Ls w w10 _ s' d mb' N _ _ b Ls sy hf false E HE.out L10.out X10.out HB.out.1 HB.out.2 HB.out.1).mono ?_;rintro e w11 ⟨hH, hX⟩;obtain rfl : e = .returned (.bool true) := by
     rcases hH with ⟨_, h⟩ | ⟨h, _⟩
     ·exact h
     ·exact absurd rfl h
    have X11 := Lib.hid (L10.out.ext.trans hX);clear hX hH L10;go_wp2_with fail;go_ret;exact ⟨rfl, X11.out⟩
end Go.Proofs.YtheidjagcafgnaaGreatDoor
namespace Go.Proofs.YtheidjagcafgnaaGreatDoor
open Go.RowKit Go.ChangeShapes
theorem rowName : (Tryz.prog.cutTypes.find? (·.1 == "internal/reflectlite.rtype")).map (·.2) = some 153 := by kernel_rfl
theorem oneRow : ((List.range Tryz.prog.types.size).filter fun t => Tryz.prog.rowNamed t [101, 114, 114, 111, 114]) = [25] := by kernel_rfl
theorem etName : Tryz.prog.globalNamed "errors.errorType" = some 9 := by kernel_rfl
theorem errType_of_laid {l : List (String × DataW Unit)} {W : World} (h : laidMetH Tryz.prog l W)
  (hl : l.filter (fun x => x.1 == "errors.errorType") = [("errors.errorType", .iface "internal/reflectlite.rtype" (.agg [.ptr (.lit (.string [101, 114, 114, 111, 114]))]))]) : ErrType W := by
 have h1 := laidMetH.filter (fun x => x.1 == "errors.errorType") h
 rw [hl] at h1;have h' : laidMet Tryz.prog [] W ∧ handlesMet Tryz.prog [("errors.errorType", .iface "internal/reflectlite.rtype" (.agg [.ptr (.lit (.string [101, 114, 114, 111, 114]))]))] W := h1
 obtain ⟨name, u, ty, e1, e2, e3, e4, e5⟩ := h'.2 _ (List.mem_singleton.2 rfl);have en : name = [101, 114, 114, 111, 114] := (Option.some.inj e1).symm;subst en;obtain rfl := Option.some.inj (rowName.symm.trans e2);have hm : ty ∈ (List.range Tryz.prog.types.size).filter fun t => Tryz.prog.rowNamed t [101, 114, 114, 111, 114] := List.mem_filter.2 ⟨List.mem_range.2 e3, e4⟩;rw [oneRow] at hm;obtain rfl := List.mem_singleton.1 hm;have hh : typeHandle Tryz.prog 25 = hdl 25 := by kernel_rfl
 rw [hh] at e5;unfold ErrType;simpa using World.var?_cell etName e5 0
theorem sentinel_row {l : List (String × DataW Unit)} {W : World} {n : String} {g : Nat} {text : List UInt8} {ti : TypeId} {ms : Array (String × TypeId)} (h : laidMetH Tryz.prog l W)
  (hl : l.filter (fun x => x.1 == n) = [(n, .iface "*errors.errorString" (.ptr (.agg [.lit (.string text)])))]) (hg : Tryz.prog.globalNamed n = some g)
  (ht : (Tryz.prog.globals[g]?).map (·.type) = some ti) (hi : Tryz.prog.underlying ti = some (.interface ms)) :
  ∃ (E : Addr), W.cell? ⟨g, 0, none⟩ = some (sentV E) ∧ (∃ s : ByteArray, W.cell? E = some (.string s) ∧ s.data.toList = text) ∧ ∃ c t, W.heap[E.block]? = some (.cells c t (0, 0)) := by
 have h1 := laidMetH.filter (fun x => x.1 == n) h;rw [hl] at h1;have h2 : laidMet Tryz.prog [(n, .iface "*errors.errorString" (.ptr (.agg [.lit (.string text)])))] W := h1
 obtain ⟨ps, ⟨g0, t0, cs0, f0, p0, q0, hg0, ht0, hv0, hd0, _, e0⟩, _, hrows⟩ := h2;obtain rfl := Option.some.inj (hg.symm.trans hg0);obtain rfl := Option.some.inj (ht.symm.trans ht0);subst e0;obtain ⟨l0⟩ := cs0;have ok0 : ∀ u v, l0 = [.iface u v] → Value.okWide Tryz.prog W .any 0 u v := fun u v e => by
  subst e;exact (hrows g 0 (by simp [MemPlace.row])).2 u v (by simpa using World.var?_cell hg0 hv0 0)
 obtain ⟨a0, s0, rfl, hc0, hs0, hz0, rfl⟩ := errorString_of_trod hi sent_row Tryz.underlying188 Tryz.underlying206 rfl rfl Tryz.underlying9 (by kernel_rfl) (by kernel_rfl) hd0 ok0;obtain ⟨c, t, hb⟩ := (hrows a0.block a0.off (by simp [MemPlace.row])).1;exact ⟨a0, by unfold sentV; simpa using World.var?_cell hg0 hv0 0, ⟨s0, hc0, hs0⟩, c, t, hb⟩
def nameE : Nat → String
 | 0 => "layercake/api.ErrText"
 | 1 => "layercake/api.ErrBound"
 | 2 => "layercake/api.ErrShape"
 | 3 => "layercake/api.ErrSum"
 | 4 => "layercake/api.ErrName"
 | 5 => "layercake/api.ErrNone"
 | 6 => "layercake/api.ErrColors"
 | 7 => "layercake/api.ErrFull"
 | _ => "layercake/api.ErrPower"
def textE : Nat → List UInt8
 | 0 => [108, 97, 121, 101, 114, 99, 97, 107, 101, 58, 32, 116, 101, 120, 116]
 | 1 => [108, 97, 121, 101, 114, 99, 97, 107, 101, 58, 32, 98, 111, 117, 110, 100]
 | 2 => [108, 97, 121, 101, 114, 99, 97, 107, 101, 58, 32, 115, 104, 97, 112, 101]
 | 3 => [108, 97, 121, 101, 114, 99, 97, 107, 101, 58, 32, 115, 117, 109]
 | 4 => [108, 97, 121, 101, 114, 99, 97, 107, 101, 58, 32, 110, 97, 109, 101]
 | 5 => [108, 97, 121, 101, 114, 99, 97, 107, 101, 58, 32, 110, 111, 110, 101]
 | 6 => [108, 97, 121, 101, 114, 99, 97, 107, 101, 58, 32, 99, 111, 108, 111, 114, 115]
 | 7 => [108, 97, 121, 101, 114, 99, 97, 107, 101, 58, 32, 102, 117, 108, 108]
 | _ => [108, 97, 121, 101, 114, 99, 97, 107, 101, 58, 32, 112, 111, 119, 101, 114]
def errD (k : Nat) : List (String × DataW Unit) := [(nameE k, .iface "*errors.errorString" (.ptr (.agg [.lit (.string (textE k))])))]
theorem textE_ne : ∀ j, j < 9 → ∀ k, k < 9 → j ≠ k → textE j ≠ textE k := by decide
theorem errs_of_laid {l : List (String × DataW Unit)} {W : World} (h : laidMetH Tryz.prog l W)
  (het : l.filter (fun x => x.1 == "errors.errorType") = [("errors.errorType", .iface "internal/reflectlite.rtype" (.agg [.ptr (.lit (.string [101, 114, 114, 111, 114]))]))])
  (hl0 : l.filter (fun x => x.1 == nameE 0) = errD 0) (hl1 : l.filter (fun x => x.1 == nameE 1) = errD 1) (hl2 : l.filter (fun x => x.1 == nameE 2) = errD 2)
  (hl3 : l.filter (fun x => x.1 == nameE 3) = errD 3) (hl4 : l.filter (fun x => x.1 == nameE 4) = errD 4) (hl5 : l.filter (fun x => x.1 == nameE 5) = errD 5)
  (hl6 : l.filter (fun x => x.1 == nameE 6) = errD 6) (hl7 : l.filter (fun x => x.1 == nameE 7) = errD 7) (hl8 : l.filter (fun x => x.1 == nameE 8) = errD 8) :
  ∃ E, Errs W E ∧ ∀ k, k < 9 → ∃ s : ByteArray, W.cell? (E k) = some (.string s) ∧ s.data.toList = textE k := by
 have key : ∀ k, k < 9 → ∃ (E : Addr), W.cell? ⟨gk k, 0, none⟩ = some (sentV E) ∧ (∃ s : ByteArray, W.cell? E = some (.string s) ∧ s.data.toList = textE k) ∧ ∃ c t, W.heap[E.block]? = some (.cells c t (0, 0)) := by
  intro k hk;match k, hk with
  | 0, _ => exact sentinel_row h hl0 (by kernel_rfl) (by kernel_rfl) Tryz.underlying25
  | 1, _ => exact sentinel_row h hl1 (by kernel_rfl) (by kernel_rfl) Tryz.underlying25
  | 2, _ => exact sentinel_row h hl2 (by kernel_rfl) (by kernel_rfl) Tryz.underlying25
  | 3, _ => exact sentinel_row h hl3 (by kernel_rfl) (by kernel_rfl) Tryz.underlying25
  | 4, _ => exact sentinel_row h hl4 (by kernel_rfl) (by kernel_rfl) Tryz.underlying25
  | 5, _ => exact sentinel_row h hl5 (by kernel_rfl) (by kernel_rfl) Tryz.underlying25
  | 6, _ => exact sentinel_row h hl6 (by kernel_rfl) (by kernel_rfl) Tryz.underlying25
  | 7, _ => exact sentinel_row h hl7 (by kernel_rfl) (by kernel_rfl) Tryz.underlying25
  | 8, _ => exact sentinel_row h hl8 (by kernel_rfl) (by kernel_rfl) Tryz.underlying25
 let E : Nat → Addr := fun k => if hk : k < 9 then (key k hk).choose else ⟨0, 0, none⟩
 have hE : ∀ k (hk : k < 9), E k = (key k hk).choose := fun k hk => by simp [E, hk]
 refine ⟨E, ⟨errType_of_laid h het, fun k hk => ?_, fun k hk => ?_, fun j k hj hk hjk => ?_⟩, fun k hk => ?_⟩
 ·rw [hE k hk]; exact (key k hk).choose_spec.1
 ·rw [hE k hk]; exact (key k hk).choose_spec.2.2
 ·rw [hE j hj, hE k hk];intro e;obtain ⟨s, h1, h2⟩ := (key j hj).choose_spec.2.1;obtain ⟨s', h3, h4⟩ := (key k hk).choose_spec.2.1;rw [e, h3] at h1;injection h1 with h1; injection h1 with h1;subst h1;exact textE_ne j hj k hk hjk (h2.symm.trans h4)
 ·rw [hE k hk]; exact (key k hk).choose_spec.2.1
end Go.Proofs.YtheidjagcafgnaaGreatDoor
namespace Go.Proofs.YtheidjagcafgnaaGreatDoor
open Go.ChangeShapes Go.WideShapes Go.RowKit Go.Deep Go.Joins
end Go.Proofs.YtheidjagcafgnaaGreatDoor
namespace Go.Proofs.YtheidjagcafgnaaGreatDoor
open Go.ChangeShapes Go.WideShapes Go.RowKit Go.Deep Go.Joins
theorem wAll_memS {H : Type} {P : Program} {e : TypeId} : ∀ {l : List (DataW H)} {d : DataW H}, d ∈ l → ∀ n ∈ d.weights P e, n ∈ DataW.weightsAll P e l := by
 intro l;induction l with
 | nil => intro d h; cases h
 | cons x l ih =>
  intro d h n hn;rw [DataW.weightsAll];rcases List.mem_cons.1 h with rfl | h
  ·exact List.mem_append_left _ hn
  ·exact List.mem_append_right _ (ih h n hn)
theorem open_chs {H : Type} {enc : TypeId × Value → H} {w : World} {base : Nat} {spare : Nat → Bool} {held : Bool} {v : Value} {d : DataW H} {pl : List MemPlace}
  (h : DataW.Trod enc Tryz.prog w base spare held 36 v d pl) (hv : ∃ x len cap, v = .slice x len cap) :
  ∃ (a : Option Addr) (n cap : Nat) (ch : Nat → Ch), v = .slice a n cap ∧ n ≤ maxLen ∧ Chs w a n ch ∧ (∀ i, i < n → (ch i).text.size ∈ d.weights Tryz.prog 36) := by
 obtain ⟨x, len, cap, rfl⟩ := hv;obtain ⟨fuel, hf⟩ := h;have he := Tryz.underlying42;have hC : Tryz.prog.cellsOf 42 = 3 := by kernel_rfl
 rcases open_slice Tryz.underlying36 hf with ⟨h0, _⟩ | ⟨a, n, c, m, k, D, Pl, h0, _, hl, hm, hmm, hx, hi⟩
 ·simp [Value.cells] at h0;obtain ⟨rfl, rfl, rfl⟩ := h0;exact ⟨none, 0, 0, fun _ => ⟨⟨#[]⟩, ⟨#[]⟩, ⟨#[]⟩⟩, rfl, Nat.zero_le _, ⟨fun _ => rfl, fun a h => by cases h⟩, fun i h => by omega⟩
 ·simp [Value.cells] at h0;obtain ⟨rfl, rfl, rfl⟩ := h0;have hd : d = .slice ((List.range len).map D) ((List.range (m - len)).map fun j => D (len + j)) := congrArg Prod.fst hx;have key : ∀ i, i < len → ∃ p : Ch, (w.cell? (a.add (i * 3)) = some (.string p.kind) ∧ w.cell? ⟨(a.add (i * 3)).block, (a.add (i * 3)).off + 1, none⟩ = some (.string p.name) ∧
    w.cell? ⟨(a.add (i * 3)).block, (a.add (i * 3)).off + 2, none⟩ = some (.string p.text)) ∧ p.text.size ∈ d.weights Tryz.prog 36 := by
   intro i hlt;have him : i < m := by rw [hmm]; split <;> omega
   obtain ⟨cs', hc, hr⟩ := hi i him;obtain ⟨xs, q, _, hag, _, hxl, hxx⟩ := DataW.trod_struct he hr;obtain ⟨_, hcl, hat⟩ := World.cells?_some hc;rw [hC] at hcl hat;obtain ⟨x0, x1, x2, rfl⟩ : ∃ x0 x1 x2, xs = [x0, x1, x2] := by
    match xs, hxl with
    | [x0, x1, x2], _ => exact ⟨x0, x1, x2, rfl⟩
   obtain ⟨v0, v1, v2, rfl⟩ : ∃ v0 v1 v2, cs' = [v0, v1, v2] := by
    match cs', hcl with
    | [v0, v1, v2], _ => exact ⟨v0, v1, v2, rfl⟩
   have h0 := hxx 0 _ rfl;have h1 := hxx 1 _ rfl;have h2 := hxx 2 _ rfl;simp only [List.getElem?_cons_zero, List.getElem?_cons_succ] at h0 h1 h2;obtain ⟨s0, e0, y0, z0⟩ := DataW.trod_string Tryz.underlying9 h0;obtain ⟨s1, e1, y1, z1⟩ := DataW.trod_string Tryz.underlying9 h1;obtain ⟨s2, e2, y2, z2⟩ := DataW.trod_string Tryz.underlying9 h2;injection e0 with e0 _;injection e1 with e1 _;injection e2 with e2 _;subst e0 e1 e2;refine ⟨⟨s0, s1, s2⟩, ⟨(hat 0 (by omega)).trans rfl, cell_add (by decide) ((hat 1 (by omega)).trans rfl), cell_add (by decide) ((hat 2 (by omega)).trans rfl)⟩, ?_⟩;rw [hd];simp only [DataW.weights, Tryz.underlying36];refine List.mem_cons_of_mem _ (List.mem_append_left _ (wAll_memS (d := D i) (List.mem_map.2 ⟨i, List.mem_range.2 hlt, rfl⟩) _ ?_));have hDi : D i = .agg [x0.1, x1.1, x2.1] := congrArg Prod.fst hag;rw [hDi, y0, y1, y2];simp only [DataW.weights, he];simp [DataW.weightsEach, DataW.weights]
  haveI : Inhabited Ch := ⟨⟨⟨#[]⟩, ⟨#[]⟩, ⟨#[]⟩⟩⟩
  obtain ⟨ch, hch⟩ := Go.Deep.choose_lt (α := Ch) key;exact ⟨some a, len, cap, ch, rfl, by omega, ⟨(fun h => by cases h), fun a' ha i hi => by injection ha with ha; subst ha; exact (hch i hi).1⟩, fun i hi => (hch i hi).2⟩
end Go.Proofs.YtheidjagcafgnaaGreatDoor
namespace Go.Proofs.YtheidjagcafgnaaGreatDoor
open Go.ChangeShapes Go.WideShapes Go.ChangeAt Go.RowKit
theorem law_readAll {H : Type} {enc : TypeId × Value → H} {P : Program} (hl : laidOutB P = true) {W W' : World} (sp : Nat → Bool) (hB : Below W.heap.size W W') :
  ∀ (ts : List TypeId) (vs : List Value) (ds : List (DataW H)) (ps : List MemPlace),
   (∀ t ∈ ts, P.readableRec t = true ∧ t < P.types.size) → (∀ p ∈ ps, p.block < W.heap.size) → (∀ p ∈ ps, sp p.block = true) →
   DataW.TrodAll enc P W 0 (fun _ => true) true ts vs ds ps → DataW.TrodAll enc P W' 0 sp true ts vs ds ps
 | [], [], [], _, _, _, _, h => h
 | t :: ts, v :: vs, d :: ds, ps, hr, hlt, hsp, h => by
  obtain ⟨p, q, h1, h2, rfl⟩ := h;have ht := hr t (List.mem_cons_self ..);refine ⟨p, q, ?_, ?_, rfl⟩
  ·exact WideElems.Trod_stays hl ht.1 ht.2 h1 (fun x hx => hB.same (hlt x (List.mem_append_left _ hx))) (fun x hx => hsp x (List.mem_append_left _ hx))
  ·exact law_readAll hl sp hB ts vs ds q (fun t' ht' => hr t' (List.mem_cons_of_mem _ ht')) (fun x hx => hlt x (List.mem_append_right _ hx)) (fun x hx => hsp x (List.mem_append_right _ hx)) h2
 | [], [], _ :: _, _, _, _, _, h => h.elim
 | [], _ :: _, _, _, _, _, _, h => h.elim
 | _ :: _, [], _, _, _, _, _, h => h.elim
 | _ :: _, _ :: _, [], _, _, _, _, h => h.elim
theorem law_post {H : Type} {enc : TypeId × Value → H} {P : Program} (hl : laidOutB P = true) {f : Func} {s : ChangeSpec} {apart fresh handsOn : Bool} {W W' : World} {args : Array Value} {ds : List (DataW H)} {before : List MemPlace} {tb : TypeId}
  (hW : DataW.Whole enc P f.params.toList s.vars apart W args.toList ds [] before) (hv : s.vars = [])
  (hfn : s.fn H (ds ++ []) = { results := [.lit (.bool true)], args := ds })
  (hread : f.params.toList.all (fun t => P.readableRec t && decide (t < P.types.size)) = true)
  (hres : f.resultTypes = #[tb]) (hb : P.underlying tb = some .bool) (hB : Below W.heap.size W W') :
  s.post enc P f apart fresh handsOn false W args (.bool true) W' := by
 have hlt : ∀ p ∈ before, p.block < W.heap.size := fun p hp => hW.lt p hp;have hr : ∀ t ∈ f.params.toList, P.readableRec t = true ∧ t < P.types.size := by
  intro t ht;have := List.all_eq_true.1 hread t ht;simpa using this
 have hW0 := hW;obtain ⟨p, q, hA, hV, hpq, hfz, hnd⟩ := hW;rw [hv] at hV;have hq : q = [] := by simpa [DataW.TrodVars] using hV
 subst hq;rw [List.append_nil] at hpq;subst hpq;have hargs : ∀ sp : Nat → Bool, (∀ x ∈ before, sp x.block = true) → DataW.TrodAll enc P W' 0 sp true f.params.toList args.toList ds before :=
  fun sp hsp => law_readAll hl sp hB _ _ _ _ hr hlt hsp hA
 have hold : ∀ x ∈ before, (fun b => decide (b < W.heap.size)) x.block = true := fun x hx => by simpa using hlt x hx
 have hresults : ∀ (b : Nat) (sp : Nat → Bool) (hd : Bool), DataW.TrodAll enc P W' b sp hd f.resultTypes.toList ((Value.bool true).resultList f.resultTypes.size) [.lit (.bool true)] [] := by
  intro b sp hd;rw [hres];exact trodAll_mk1 (shut_bool hb true)
 refine ⟨ds, [], before, [], before, [], hW0, ?_, ?_, ?_, World.keptBut_mono (fun x hx => ⟨hx, ?_⟩) (hB.frame (· ∈ before)), fun _ => ?_⟩
 ·rw [hfn]; exact hresults _ _ _
 ·rw [hfn]; exact hargs _ hold
 ·rw [hfn, hv]; rfl
 ·exact Or.inr (Or.inl hx)
 ·cases ‹false = true›
end Go.Proofs.YtheidjagcafgnaaGreatDoor
