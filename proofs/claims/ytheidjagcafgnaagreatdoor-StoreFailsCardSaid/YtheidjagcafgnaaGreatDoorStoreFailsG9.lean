/-
  A law's store beside its model: what a change does to both.
  Acts on a disk: rows of acts; few; act.
  layercakelaw4.act.
  What was flushed stays: the plain law. No function of the program is named.
  DiskKeeps' walk.
  coded: an error's number, without a place.
  StoreKeeps' walk.
  StoreFails: what is known of the store and its disk, whether the power went or not.
  StoreFails' walk (printed by gen_stfails.py).
-/
import Derived.Test.YtheidjagcafgnaaGreatDoorStoreFailsG1
import Derived.Test.YtheidjagcafgnaaGreatDoorStoreFailsG8
import Derived.Test.YtheidjagcafgnaaGreatDoorStoreFailsG7
import Derived.Test.YtheidjagcafgnaaGreatDoorStoreFailsG3
import Derived.Deep.LoopGhost
import Derived.Deep.RegionHeld3
import Derived.Test.YtheidjagcafgnaaGreatDoorStoreFailsG2
set_option linter.unusedSimpArgs false
set_option linter.unusedVariables false
set_option maxRecDepth 100000
namespace Go.Proofs.YtheidjagcafgnaaGreatDoor
open Go.RowKit
theorem add_blockS (a : Addr) (k : Nat) : (a.add k).block = a.block := by unfold Addr.add; split <;> rfl
theorem Cks.keeps {F : Nat → Prop} {w w' : World} {x : Option Addr} {L : List Ck} (h : Cks w x L) (hk : Keeps F w w') (hF : ∀ a, x = some a → ¬ F a.block) : Cks w' x L := by
 refine ⟨h.1, fun a ha i c hi => ?_⟩;obtain ⟨c0, c1⟩ := h.2 a ha i c hi;have hl : (a.add (i * 2)).block < w.heap.size := World.block_lt_of_cell? w _ c0;have hb : ¬ F (a.add (i * 2)).block := by rw [add_blockS]; exact hF a ha
 exact ⟨(hk.cell hl hb).trans c0, (hk.cell (p := ⟨_, _, none⟩) hl hb).trans c1⟩
theorem TxB.keeps {P P' F : Nat → Prop} {w w' : World} {v : Value} {L : List Ck} (h : TxB w P v L) (hk : Keeps F w w') (hF : ∀ k, P k → ¬ F k) (hP : ∀ k, P k → k < w.heap.size → P' k) : TxB w' P' v L := by
 obtain ⟨x, c, rfl, hC, hb⟩ := h;exact ⟨x, c, rfl, hC.keeps hk (fun a ha => hF _ (hb a ha).1), fun a ha => ⟨hP _ (hb a ha).1 (hb a ha).2, Nat.lt_of_lt_of_le (hb a ha).2 hk.size⟩⟩
theorem pkB_cons (c : Ck) (L : List Ck) : (pkB (c :: L)).size = 8 + c.k.size + c.d.size + (pkB L).size := by
 show (Sto4.pk (c :: L)).toArray.size = _ + (Sto4.pk L).toArray.size;rw [List.size_toArray, List.size_toArray];show (((Sto4.itm c.k ++ Sto4.itm c.d).data.toList) ++ Sto4.pk L).length = _;rw [List.length_append, dl_len, ByteArray.size_append, Sto4.itm_size, Sto4.itm_size];omega
theorem pkB_drp (L : List Ck) (k : ByteArray) : (pkB (Tx.drp L k)).size ≤ (pkB L).size := by
 induction L with
 | nil => exact Nat.le_refl _
 | cons c L ih =>
  have ih : (pkB (L.filter (fun c => decide (c.k ≠ k)))).size ≤ _ := ih;show (pkB ((c :: L).filter (fun c => decide (c.k ≠ k)))).size ≤ _;rw [List.filter_cons];split
  ·rw [pkB_cons, pkB_cons]; omega
  ·rw [pkB_cons]; omega
theorem pkB_ins (L : List Ck) (k t : ByteArray) : (pkB (Tx.ins k t L)).size ≤ (pkB L).size + (8 + k.size + t.size) := by
 induction L with
 | nil => show (pkB [⟨k, t⟩]).size ≤ _; rw [pkB_cons]; simp only; omega
 | cons c L ih =>
  unfold Tx.ins;split
  ·have := pkB_drp (c :: L) k;rw [pkB_cons]; simp only; omega
  ·rw [pkB_cons, pkB_cons]; omega
/-- a law's store (what it holds, what it has synced) on a disk with power -/
structure KM (w0 w : World) (S : Nat → Prop) (s d mb n cn : Nat) (m : Dk.DM) (b : Nat) (L Ls : List Ck) (sy hf i T : Nat) : Prop where
 ls : LS w0 w S s d mb n cn m b L sy hf false
 inv : Sto4.Inv m.now n sy hf Ls
 calm : Sto4.Calm m
 bb : b ≤ 2001
 cni : cn ≤ i
 syi : sy ≤ i + 1
 nm : ∀ c ∈ L, c.k.size ≤ 12
 nms : ∀ c ∈ Ls, c.k.size ≤ 12
 len : L.length ≤ i
 lens : Ls.length ≤ i
 tot : (pkB L).size ≤ T
 tots : (pkB Ls).size ≤ T
def opC : Option Nat → Nat
 | some c => c + 1
 | none => 0
theorem opV_err (w : World) (E : Nat → Addr) (r : Option Nat) (h : opC r ≤ 9) : ErrV w E (opV E r) ((opC r : Nat) : Int) (-1) := by
 cases r with
 | none => exact .nil
 | some c =>
  have h1 : c < 9 := h;have := ErrV.sent (w := w) (E := E) c h1;exact this
/-- what a change leaves beside its model -/
inductive KSt (w0 w : World) (E : Nat → Addr) (S : Nat → Prop) (s d mb n cn : Nat) (m : Dk.DM) (b : Nat) (L Ls : List Ck) (sy hf i T : Nat) (c : Ch) : Ending → World → Prop
 | fine {w' : World} (S' : Nat → Prop) (cn' : Nat) (m' : Dk.DM) (b' sy' hf' : Nat) (r : Option Nat) (L' Ls' : List Ck) : chg L Ls c = (L', Ls', opC r) → opC r ≤ 9 → r ≠ some 7 → r ≠ some 8 →
   KM w0 w' S' s d mb n cn' m' b' L' Ls' sy' hf' (i + 1) (T + 20 + c.text.size) →
   Keeps (fun k => S k ∨ k = s ∨ k = mb) w w' → (∀ k, S' k → S k ∨ w.heap.size ≤ k) → b' ≤ b → (m.left = -1 → m'.left = -1) →
   KSt w0 w E S s d mb n cn m b L Ls sy hf i T c (.returned (opV E r)) w'
 | full {w' : World} : c.kind = kSync → (n - 2) / 2 * 64 < (pkB L).size → KM w0 w' S s d mb n cn m b L Ls sy hf i T → Ext w w' → KSt w0 w E S s d mb n cn m b L Ls sy hf i T c (.returned (opV E (some 7))) w'
 | lost {w' : World} (S' : Nat → Prop) (m' : Dk.DM) (b' : Nat) : c.kind = kSync → m.left ≠ -1 → LS w0 w' S' s d mb n cn m' b' L sy hf true → b' ≤ b + 2001 →
   (∀ keep, Sto4.Inv (Dk.cr m' keep).now n sy hf Ls ∨ Sto4.Inv (Dk.cr m' keep).now n (sy + 1) (1 - hf) L) → Keeps (fun k => S k ∨ k = s ∨ k = mb) w w' → (∀ k, S' k → S k ∨ w.heap.size ≤ k) →
   KSt w0 w E S s d mb n cn m b L Ls sy hf i T c (.returned (opV E (some 8))) w'
theorem kPut_drop : kPut ≠ kDrop := by decide
theorem kSync_put : kSync ≠ kPut := by decide
theorem kSync_drop : kSync ≠ kDrop := by decide
section
variable {w0 w w' : World} {E : Nat → Addr} {S : Nat → Prop} {s d mb n cn : Nat} {m : Dk.DM} {b : Nat} {L Ls : List Ck} {sy hf i T : Nat} {c : Ch} {e : Ending}
theorem KM.up (h : KM w0 w S s d mb n cn m b L Ls sy hf i T) (hE : Ext w w') {i' T' : Nat} (hi : i ≤ i') (hT : T ≤ T') : KM w0 w' S s d mb n cn m b L Ls sy hf i' T' :=
 ⟨h.ls.step hE, h.inv, h.calm, h.bb, Nat.le_trans h.cni hi, by have := h.syi; omega, h.nm, h.nms, Nat.le_trans h.len hi, Nat.le_trans h.lens hi, Nat.le_trans h.tot hT, Nat.le_trans h.tots hT⟩
open Classical in
theorem chg_put (q : c.kind = kPut) : chg L Ls c = if ¬ isKey c.name then (L, Ls, 5) else if Tx.fnd L c.name = none ∧ 100 ≤ L.length then (L, Ls, 2) else (Tx.ins c.name c.text L, Ls, 0) := by unfold chg; rw [if_pos q]
theorem chg_drop (q : c.kind = kDrop) : chg L Ls c = if Tx.fnd L c.name = none then (L, Ls, 6) else (Tx.drp L c.name, Ls, 0) := by
 unfold chg;rw [if_neg (fun h => kPut_drop (h.symm.trans q)), if_pos q]
theorem chg_sync (q : c.kind = kSync) : chg L Ls c = (L, L, 0) := by
 unfold chg;rw [if_neg (fun h => kSync_put (q.symm.trans h)), if_neg (fun h => kSync_drop (q.symm.trans h)), if_pos q]
theorem KM.step (h : KM w0 w S s d mb n cn m b L Ls sy hf i T) (hP : DoP w0 w E S s d mb n cn m b L sy hf false c e w') (ht : c.text.size ≤ 8000) (hi : i ≤ 1000) : KSt w0 w E S s d mb n cn m b L Ls sy hf i T c e w' := by
 have hlt := h.ls.st.D.lt;cases hP with
 | same r hW hL hE =>
  have hK : Keeps (fun k => S k ∨ k = s ∨ k = mb) w w' := hE.keeps;have hR := h.up hE (Nat.le_succ i) (show T ≤ T + 20 + c.text.size by omega);cases hW with
  | lost q _ => cases q
  | name _ q k1 => exact .fine S cn m b sy hf (some 4) L Ls (by rw [chg_put q, if_pos k1]; rfl) (by decide) (by decide) (by decide) hR hK (fun k q => .inl q) (Nat.le_refl _) id
  | many _ q k1 k2 =>
   refine .fine S cn m b sy hf (some 1) L Ls ?_ (by decide) (by decide) (by decide) hR hK (fun k q => .inl q) (Nat.le_refl _) id;rw [chg_put q, if_neg (fun q => q k1), if_pos]
   ·rfl
   ·rcases k2 with k2 | k2
    ·omega
    ·exact k2
  | none _ q k1 => exact .fine S cn m b sy hf (some 5) L Ls (by rw [chg_drop q, if_pos k1]; rfl) (by decide) (by decide) (by decide) hR hK (fun k q => .inl q) (Nat.le_refl _) id
  | full _ q k1 => exact .full q k1 (h.up hE (Nat.le_refl _) (Nat.le_refl _)) hE
  | other q1 q2 q3 =>
   refine .fine S cn m b sy hf none L Ls ?_ (by decide) (by decide) (by decide) hR hK (fun k q => .inl q) (Nat.le_refl _) id;unfold chg;rw [if_neg q1, if_neg q2, if_neg q3];rfl
 | put _ q k1 k2 hL hK =>
  refine .fine S (cn + 1) m b sy hf none (Tx.ins c.name c.text L) Ls ?_ (by decide) (by decide) (by decide) ?_ (hK.mono (fun k _ q => .inr (.inr q))) (fun k q => .inl q) (Nat.le_refl _) id
  ·rw [chg_put q, if_neg (fun q => q k1), if_neg (fun q => k2 (.inr q))]; rfl
  ·have h1 := h.cni;have h2 := h.syi;have h3 := Tx.length_ins_le L c.name c.text;have h4 := h.len;have h5 := h.lens;have h6 := pkB_ins L c.name c.text;have h7 := h.tot;have h8 := h.tots;have h9 := k1.2.1;refine ⟨hL, h.inv, h.calm, h.bb, by omega, by omega, fun x hx => ?_, h.nms, by omega, by omega, by omega, by omega⟩;rcases Tx.mem_ins hx with rfl | hx
   ·exact h9
   ·exact h.nm x hx.1
 | drop _ q k1 hL hK =>
  refine .fine S cn m b sy hf none (Tx.drp L c.name) Ls ?_ (by decide) (by decide) (by decide) ?_ (hK.mono (fun k _ q => .inr (.inr q))) (fun k q => .inl q) (Nat.le_refl _) id
  ·rw [chg_drop q, if_neg k1]; rfl
  ·have h1 := h.cni;have h2 := h.syi;have h3 := Tx.length_drp_le L c.name;have h4 := h.len;have h5 := h.lens;have h6 := pkB_drp L c.name;have h7 := h.tot;have h8 := h.tots;exact ⟨hL, h.inv, h.calm, h.bb, by omega, by omega, fun x hx => h.nm x (Tx.mem_drp.1 hx).1, h.nms, by omega, by omega, by omega, by omega⟩
 | sync m' ok b' _ q hz hR hb hb0 hL hK =>
  have hK2 : Keeps (fun k => S k ∨ k = s ∨ k = mb) w w' := hK.mono (fun k _ q => by
   rcases q with q | q
   ·exact .inl q
   ·exact .inr (.inl q))
  have hgr : ∀ k, grow S w w' k → S k ∨ w.heap.size ≤ k := fun k q => by
   rcases q with q | q
   ·exact .inl q
   ·exact .inr q.1
  have h1 := h.cni;have h2 := h.syi;cases ok with
  | true =>
   have hok := Sto4.sync_ok hR h.inv hz h.ls.st.so h.ls.st.sz (by omega) rfl;refine .fine (grow S w w') cn m' b' (sy + 1) (1 - hf) none L L (chg_sync q) (by decide) (by decide) (by decide) ?_ hK2 hgr (by have := hb0 rfl; omega) (fun hl => ?_)
   ·have h4 := h.len;have h7 := h.tot;exact ⟨hL, hok.2, hok.1, by have := hb0 rfl; omega, by omega, by omega, h.nm, h.nm, by omega, by omega, by omega, by omega⟩
   ·have := (hR.sure hl).2;rw [this];show Dk.dec (Dk.dec (Dk.dec _)) = -1;rw [Sto4.wAt_left hl];rfl
  | false =>
   have hlo := Sto4.sync_lost hR h.inv h.calm hz h.ls.st.so h.ls.st.sz (by omega) rfl;refine .lost (grow S w w') m' b' q (fun hl => ?_) hL hb hlo.2 hK2 hgr;have := (hR.sure hl).1;cases this
end
end Go.Proofs.YtheidjagcafgnaaGreatDoor
namespace Go.Proofs.YtheidjagcafgnaaGreatDoor
open Go.RowKit
structure Ac where
  kind : ByteArray
  n : Int
  s : ByteArray
  kx : Option Addr
  kn : Nat
  kc : Nat
  kb : Nat → Bool
/-- a row of bools, wherever it lies -/
def Kp (w : World) (x : Option Addr) (n : Nat) (kb : Nat → Bool) : Prop := (x = none → n = 0) ∧ ∀ a, x = some a → ∀ j, j < n → w.cell? (a.add j) = some (.bool (kb j))
theorem Kp.ext {w w' : World} {x : Option Addr} {n : Nat} {kb : Nat → Bool} (h : Kp w x n kb) (hE : Ext w w') : Kp w' x n kb :=
  ⟨h.1, fun a ha j hj => by have h1 := h.2 a ha j hj; exact (hE.keeps (S := fun _ => False) |>.cell (World.block_lt_of_cell? w _ h1) id).trans h1⟩
structure Ac.Ok (w : World) (a : Ac) : Prop where
  n : -9223372036854775808 ≤ a.n ∧ a.n ≤ 9223372036854775807
  s : a.s.size ≤ 9223372036854775807
  kn : a.kn ≤ 9223372036854775807
  kp : Kp w a.kx a.kn a.kb
def Acs (w : World) (x : Option Addr) (n : Nat) (ac : Nat → Ac) : Prop :=
  (x = none → n = 0) ∧ ∀ a, x = some a → ∀ i, i < n →
    w.cell? (a.add (i * 4)) = some (.string (ac i).kind) ∧ w.cell? ⟨(a.add (i * 4)).block, (a.add (i * 4)).off + 1, none⟩ = some (.int .i64 (ac i).n) ∧
    w.cell? ⟨(a.add (i * 4)).block, (a.add (i * 4)).off + 2, none⟩ = some (.string (ac i).s) ∧ w.cell? ⟨(a.add (i * 4)).block, (a.add (i * 4)).off + 3, none⟩ = some (.slice (ac i).kx (ac i).kn (ac i).kc) ∧ (ac i).Ok w
theorem Acs.ext {w w' : World} {x : Option Addr} {n : Nat} {ac : Nat → Ac} (h : Acs w x n ac) (hE : Ext w w') : Acs w' x n ac := by
  refine ⟨h.1, fun a ha i hi => ?_⟩;obtain ⟨c0, c1, c2, c3, ok⟩ := h.2 a ha i hi;have K := hE.keeps (S := fun _ => False);have hl : (a.add (i * 4)).block < w.heap.size := World.block_lt_of_cell? w _ c0;exact ⟨(K.cell hl id).trans c0, (K.cell (p := ⟨_, _, none⟩) hl id).trans c1, (K.cell (p := ⟨_, _, none⟩) hl id).trans c2, (K.cell (p := ⟨_, _, none⟩) hl id).trans c3, ⟨ok.n, ok.s, ok.kn, ok.kp.ext hE⟩⟩
end Go.Proofs.YtheidjagcafgnaaGreatDoor
namespace Go.Proofs.YtheidjagcafgnaaGreatDoor
open Go.RowKit
theorem After.up {S : Nat → Prop} {w w' : World} {d n b c : Nat} {m : Dk.DM} (h : After S w w' d n m b) (hc : b ≤ c) : After S w w' d n m c := ⟨h.1.up hc, h.2⟩
theorem After.pre {S : Nat → Prop} {w w1 w' : World} {d n b : Nat} {m : Dk.DM} (hE : Ext w w1) (h : After S w1 w' d n m b) : After S w w' d n m b := by
  obtain ⟨h1, h2⟩ := h;obtain ⟨gk, ck, gn, cn, vw, hx⟩ := h1.ex;have e := hE.size;refine ⟨⟨⟨gk, ck, gn, cn, vw, hx.mono fun k q => ?_⟩, h1.ok, fun k q => ?_, h1.n1⟩, (hE.keeps (S := S)).trans h2 (fun _ _ q => q)⟩
  · rcases q with q | q
    · exact .inl q
    · exact .inr ⟨by omega, q.2⟩
  · rcases q with q | q
    · exact h1.lt k (.inl q)
    · exact q.2
def boolsV (n : Nat) (kb : Nat → Bool) : List Value := (List.range n).map fun i => .bool (kb i)
theorem boolsV_length (n : Nat) (kb : Nat → Bool) : (boolsV n kb).length = n := by simp [boolsV]
theorem boolsV_get {n : Nat} {kb : Nat → Bool} {j : Nat} (hj : j < n) : (boolsV n kb)[j]? = some (.bool (kb j)) := by simp [boolsV, hj]
end Go.Proofs.YtheidjagcafgnaaGreatDoor
namespace Go.Proofs.YtheidjagcafgnaaGreatDoor
open Go.RowKit
def KI (n : Nat) (was : Nat → ByteArray) (tb : Nat → Bool) (m : Dk.DM) : Prop := ∀ i, i < n → tb i = false → m.kept i = was i ∧ m.now i = was i ∧ ∀ p ∈ m.ws, p.1 ≠ i
theorem crk_ne {keep : Nat → Bool} {ws : List (Nat × ByteArray)} {f : Nat → ByteArray} {i : Nat} (h : ∀ p ∈ ws, p.1 ≠ i) : ∀ k, Dk.crk keep ws f k i = f i := by
  intro k;induction k with
  | zero => rfl
  | succ k ih =>
    simp only [Dk.crk];cases hp : ws[k]? with
    | none => exact ih
    | some p =>
      simp only;split
      · unfold Dk.upS;rw [if_neg (fun e => h p (List.mem_of_getElem? hp) e.symm)];exact ih
      · exact ih
theorem KI.cr {n : Nat} {was : Nat → ByteArray} {tb : Nat → Bool} {m : Dk.DM} (h : KI n was tb m) (keep : Nat → Bool) : KI n was tb (Dk.cr m keep) := by
  intro i hi ht;obtain ⟨h1, h2, h3⟩ := h i hi ht;have e : Dk.crk keep m.ws m.kept m.ws.length i = was i := (crk_ne h3 _).trans h1;exact ⟨e, e, fun p hp => by cases hp⟩
end Go.Proofs.YtheidjagcafgnaaGreatDoor
namespace Go.Proofs.YtheidjagcafgnaaGreatDoor
open Go.RowKit
/-- the disk of a law: where it lies, and what lay there ahead of it -/
structure LD (w0 w : World) (S : Nat → Prop) (d n : Nat) (m : Dk.DM) (b : Nat) : Prop where
  ds : DS w S d n m b
  ext : Ext w0 w
  ge : ∀ k, S k → w0.heap.size ≤ k
theorem LD.after {w0 w w' : World} {S : Nat → Prop} {d n b c : Nat} {m m' : Dk.DM} (h : LD w0 w S d n m b) (ha : After S w w' d n m' c) : LD w0 w' (grow S w w') d n m' c :=
  ⟨ha.1, Below.trans h.ext (ha.2.below h.ext.size (fun k hk q => by have := h.ge k q; omega)), fun k q => by
    rcases q with q | q
    · exact h.ge k q
    · have := h.ext.size; omega⟩
theorem LD.step {w0 w w' : World} {S : Nat → Prop} {d n b : Nat} {m : Dk.DM} (h : LD w0 w S d n m b) (hE : Ext w w') : LD w0 w' S d n m b := ⟨h.ds.ext hE, h.ext.trans hE, h.ge⟩
/-- a store into a block that is not the disk's -/
theorem LD.far {w0 w : World} {S : Nat → Prop} {d n b g i : Nat} {m : Dk.DM} {u : Value} (h : LD w0 w S d n m b) (hg : ¬ S g) (hw : w0.heap.size ≤ g) : LD w0 (w.setCell ⟨g, i, none⟩ u) S d n m b :=
  ⟨h.ds.keeps (one_keeps w g i u) (fun _ q e => hg (e ▸ q)), Below.setCell h.ext hw _, h.ge⟩
end Go.Proofs.YtheidjagcafgnaaGreatDoor
namespace Go.Proofs.YtheidjagcafgnaaGreatDoor
open Go.RowKit
theorem coded_any (w : World) (E : Nat → Addr) (hE : Errs w E) (v : Value) (c a n : Int) (h : ErrV w E v c a) : Calls Tryz.prog 13 #[v, .int .i64 n] w fun e w' => e = .returned (.bool (decide (c = n ∧ a = -1))) ∧ Ext w w' := by
  by_cases hc : c = n
  · subst hc;go_enter Tryz.func13, Tryz.ntmps13
    go_wp2_with fail;refine (code_any _ E hE _ _ _ h).mono ?_;rintro e w2 ⟨rfl, h2⟩;go_wp2_with fail;go_ret;exact ⟨ret_bool (by rw [Bool.eq_iff_iff]; simp), h2⟩
  · have t1 : (c == n) = false := beq_eq_false_iff_ne.2 hc;go_enter Tryz.func13, Tryz.ntmps13
    go_wp2_with fail;refine (code_any _ E hE _ _ _ h).mono ?_;rintro e w2 ⟨rfl, h2⟩;go_wp2_with fail;go_ret;exact ⟨ret_bool (by rw [Bool.eq_iff_iff]; simp [hc]), h2⟩
end Go.Proofs.YtheidjagcafgnaaGreatDoor
namespace Go.Proofs.YtheidjagcafgnaaGreatDoor
open Go.RowKit
/-- off the store's blocks -/
def offS (S : Nat → Prop) (s mb k : Nat) : Prop := ¬ S k ∧ k ≠ s ∧ k ≠ mb
theorem LS.off {w0 w : World} {S : Nat → Prop} {s d mb n cn : Nat} {m : Dk.DM} {b : Nat} {L : List Ck} {sy hf : Nat} {lost : Bool} (h : LS w0 w S s d mb n cn m b L sy hf lost) : ∀ k, w.heap.size ≤ k → offS S s mb k := by
  obtain ⟨h1, h2⟩ := h.pos;exact fun k hk => ⟨fun q => by have := h.st.D.lt k q; omega, by omega, by omega⟩
theorem TxB.step {S S' : Nat → Prop} {s mb : Nat} {w w' : World} {v : Value} {L : List Ck} (h : TxB w (offS S s mb) v L) (hk : Keeps (fun k => S k ∨ k = s ∨ k = mb) w w') (hS : ∀ k, S' k → S k ∨ w.heap.size ≤ k) : TxB w' (offS S' s mb) v L :=
  h.keeps hk (fun k q e => by
    rcases e with e | e | e
    · exact q.1 e
    · exact q.2.1 e
    · exact q.2.2 e) (fun k q hlt => ⟨fun e => by
    rcases hS k e with e | e
    · exact q.1 e
    · omega, q.2.1, q.2.2⟩)
theorem KM.fmtd {w0 w : World} {S : Nat → Prop} {s d mb n : Nat} {m : Dk.DM} (h : LS w0 w S s d mb n 0 (Sto4.fmt m) 0 [] 1 1 false) (hI : Sto4.Calm (Sto4.fmt m) ∧ Sto4.Inv (Sto4.fmt m).now n 1 1 []) : KM w0 w S s d mb n 0 (Sto4.fmt m) 0 [] [] 1 1 0 0 :=
  ⟨h, hI.2, hI.1, by omega, by omega, by omega, (fun c hc => by cases hc), (fun c hc => by cases hc), Nat.le_refl _, Nat.le_refl _, Nat.le_refl _, Nat.le_refl _⟩
theorem chV_lit (c : Ch) : chV c = .agg #[.string c.kind, .string c.name, .string c.text] := rfl
theorem sumT_step (ch : Nat → Ch) (i : Nat) : 20 * i + sumT ch i + 20 + (ch i).text.size = 20 * (i + 1) + sumT ch (i + 1) := by
  show _ = 20 * (i + 1) + (sumT ch i + (ch i).text.size);omega
theorem sumT_mono {ch : Nat → Ch} {k n : Nat} (h : k ≤ n) : sumT ch k ≤ sumT ch n := by
  induction n with
  | zero => rw [show k = 0 by omega]; exact Nat.le_refl _
  | succ n ih =>
    by_cases e : k = n + 1
    · rw [e]; exact Nat.le_refl _
    · have := ih (by omega);show _ ≤ sumT ch n + (ch n).text.size;omega
end Go.Proofs.YtheidjagcafgnaaGreatDoor
namespace Go.Proofs.YtheidjagcafgnaaGreatDoor
open Go.RowKit
theorem LS.after {w0 w w' : World} {S : Nat → Prop} {s d mb n cn : Nat} {m m' : Dk.DM} {b b' : Nat} {L : List Ck} {sy hf : Nat} {lost : Bool} (h : LS w0 w S s d mb n cn m b L sy hf lost) (ha : After S w w' d n m' b') : LS w0 w' (grow S w w') s d mb n cn m' b' L sy hf lost := by
 obtain ⟨h1, h2⟩ := h.pos;have g := h.st;refine ⟨⟨ha.1, g.B.keeps ha.2 g.ns, g.T.keeps ha.2 g.nm, g.so, g.sz, fun q => ?_, fun q => ?_, g.ne, fun k q => ?_, g.los, g.lom, g.cnb⟩, LS.keep h.ext ha.2 g.lo⟩
 ·rcases q with q | q
  ·exact g.ns q
  ·omega
 ·rcases q with q | q
  ·exact g.nm q
  ·omega
 ·rcases q with q | q
  ·exact g.lo k q
  ·have := h.ext.size; omega
/-- few texts, short names, few bytes -/
structure PL (i T : Nat) (L : List Ck) : Prop where
 len : L.length ≤ i
 nm : ∀ c ∈ L, c.k.size ≤ 12
 tot : (pkB L).size ≤ T
/-- the first loop: the store is on, or lost -/
inductive FR (w wr : World) (s d mb i T : Nat) : Bool → Value → Value → Value → Prop
 | on (S : Nat → Prop) (cn : Nat) (m : Dk.DM) (L Ls : List Ck) (sy hf : Nat) (v1 v2 v3 : Value) : KM w wr S s d mb 1500 cn m 0 L Ls sy hf i T → TxB wr (offS S s mb) v1 L → TxB wr (offS S s mb) v2 Ls → FR w wr s d mb i T false v1 v2 v3
 | off (S : Nat → Prop) (cn : Nat) (m : Dk.DM) (b : Nat) (L Ls : List Ck) (sy hf : Nat) (v1 v2 v3 : Value) : LS w wr S s d mb 1500 cn m b L sy hf true → b ≤ 2001 → cn ≤ i → sy ≤ i + 1 → hf ≤ 1 →
   (∀ keep, ∃ X sy hf, (X = Ls ∨ X = L) ∧ sy ≤ i + 2 ∧ Sto4.Inv (Dk.cr m keep).now 1500 sy hf X) → PL i T L → PL i T Ls → TxB wr (offS S s mb) v2 Ls → TxB wr (offS S s mb) v3 L → FR w wr s d mb i T true v1 v2 v3
/-- ahead of the crash -/
def FE (w wx : World) (d : Nat) (v2 v3 : Value) : Prop := ∃ (S : Nat → Prop) (m : Dk.DM) (b : Nat) (Ls Nx : List Ck), LD w wx S d 1500 m b ∧ b ≤ 2001 ∧
 (∀ keep, ∃ X sy hf, (X = Ls ∨ X = Nx) ∧ sy ≤ 62 ∧ Sto4.Inv (Dk.cr m keep).now 1500 sy hf X) ∧ TxB wx (fun k => ¬ S k) v2 Ls ∧ TxB wx (fun k => ¬ S k) v3 Nx ∧ PL 61 9200 Ls ∧ PL 61 9200 Nx
/-- behind the crash -/
def FC (w wx : World) (d : Nat) (v2 v3 : Value) : Prop := ∃ (S : Nat → Prop) (m : Dk.DM) (b : Nat) (Ls Nx X : List Ck) (sy hf : Nat), LD w wx S d 1500 m b ∧ b ≤ 2001 ∧ m.left = -1 ∧ Sto4.Calm m ∧ (X = Ls ∨ X = Nx) ∧ sy ≤ 62 ∧ Sto4.Inv m.now 1500 sy hf X ∧
 TxB wx (fun k => ¬ S k) v2 Ls ∧ TxB wx (fun k => ¬ S k) v3 Nx ∧ PL 61 9200 Ls ∧ PL 61 9200 Nx
theorem TxB.weak {w : World} {P P' : Nat → Prop} {v : Value} {L : List Ck} (h : TxB w P v L) (hP : ∀ k, P k → P' k) : TxB w P' v L := by
 obtain ⟨x, c, hv, hC, hb⟩ := h;exact ⟨x, c, hv, hC, fun a ha => ⟨hP _ (hb a ha).1, (hb a ha).2⟩⟩
theorem PL.up {i T i' T' : Nat} {L : List Ck} (h : PL i T L) (hi : i ≤ i') (hT : T ≤ T') : PL i' T' L := ⟨Nat.le_trans h.len hi, h.nm, Nat.le_trans h.tot hT⟩
theorem FR.fe {w wr : World} {s d mb i T : Nat} {lb : Bool} {v1 v2 v3 : Value} (h : FR w wr s d mb i T lb v1 v2 v3) (hi : i ≤ 60) (hT : T ≤ 9200) : FE w wr d v2 (if lb then v3 else v2) := by
 cases h with
 | on S cn m L Ls sy hf v1 v2 v3 hK h1 h2 =>
  have hp : PL 61 9200 Ls := ⟨by have := hK.lens; omega, hK.nms, by have := hK.tots; omega⟩;refine ⟨S, m, 0, Ls, Ls, ⟨hK.ls.st.D, hK.ls.ext, hK.ls.st.lo⟩, by omega, fun keep => ⟨Ls, sy, hf, .inl rfl, by have := hK.syi; omega, ?_⟩, h2.weak (fun k q => q.1), h2.weak (fun k q => q.1), hp, hp⟩;rw [Sto4.cr_calm hK.calm];exact hK.inv
 | off S cn m b L Ls sy hf v1 v2 v3 hL hb hcn hsy hhf hI p1 p2 h2 h3 =>
  refine ⟨S, m, b, Ls, L, ⟨hL.st.D, hL.ext, hL.st.lo⟩, hb, fun keep => ?_, h2.weak (fun k q => q.1), h3.weak (fun k q => q.1), p2.up (by omega) hT, p1.up (by omega) hT⟩;obtain ⟨X, sy', hf', hX, hs, hi'⟩ := hI keep;exact ⟨X, sy', hf', hX, by omega, hi'⟩
theorem TxB.grown {w w' : World} {S : Nat → Prop} {v : Value} {L : List Ck} (h : TxB w (fun k => ¬ S k) v L) (hk : Keeps S w w') : TxB w' (fun k => ¬ grow S w w' k) v L :=
 h.keeps hk (fun _ q => q) (fun k q hl e => by
  rcases e with e | e
  ·exact q e
  ·omega)
theorem FE.crash {w wx w' : World} {S : Nat → Prop} {d : Nat} {m : Dk.DM} {b : Nat} {Ls Nx : List Ck} {v2 v3 : Value} (keep : Nat → Bool) (hD : LD w wx S d 1500 m b) (hb : b ≤ 2001)
  (hI : ∀ keep, ∃ X sy hf, (X = Ls ∨ X = Nx) ∧ sy ≤ 62 ∧ Sto4.Inv (Dk.cr m keep).now 1500 sy hf X) (h2 : TxB wx (fun k => ¬ S k) v2 Ls) (h3 : TxB wx (fun k => ¬ S k) v3 Nx) (p1 : PL 61 9200 Ls) (p2 : PL 61 9200 Nx)
  (ha : After S wx w' d 1500 (Dk.cr m keep) b) : FC w w' d v2 v3 := by
 obtain ⟨X, sy, hf, hX, hs, hi⟩ := hI keep;exact ⟨grow S wx w', _, b, Ls, Nx, X, sy, hf, hD.after ha, hb, rfl, Sto4.Calm.cr _ _, hX, hs, hi, h2.grown ha.2, h3.grown ha.2, p1, p2⟩
/-- a store that was opened goes on -/
theorem KM.opened {w0 w : World} {S : Nat → Prop} {s d mb : Nat} {m : Dk.DM} {b : Nat} {X : List Ck} {sy hf : Nat} (h : LS w0 w S s d mb 1500 X.length m b X sy hf false) (hI : Sto4.Inv m.now 1500 sy hf X) (hc : Sto4.Calm m) (hb : b ≤ 2001) (hsy : sy ≤ 62) (hp : PL 61 9200 X) :
  KM w0 w S s d mb 1500 X.length m b X X sy hf 61 9200 :=
 ⟨h, hI, hc, hb, hp.len, hsy, hp.nm, hp.nm, hp.len, hp.len, hp.tot, hp.tot⟩
/-- a change of a store that is lost -/
theorem lost_step {w0 w w' : World} {E : Nat → Addr} {S : Nat → Prop} {s d mb n cn : Nat} {m : Dk.DM} {b : Nat} {L : List Ck} {sy hf : Nat} {c : Ch} {e : Ending} (h : DoP w0 w E S s d mb n cn m b L sy hf true c e w') :
  LS w0 w' S s d mb n cn m b L sy hf true ∧ Ext w w' ∧ ∃ r, e = .returned (opV E r) ∧ ((r = some 8 ∧ (c.kind = kPut ∨ c.kind = kDrop ∨ c.kind = kSync)) ∨ (c.kind ≠ kPut ∧ c.kind ≠ kDrop ∧ c.kind ≠ kSync)) := by
 cases h with
 | same r hW hL hE =>
  refine ⟨hL, hE, r, rfl, ?_⟩;cases hW with
  | lost _ q => exact .inl ⟨rfl, q⟩
  | name q => cases q
  | many q => cases q
  | none q => cases q
  | full q => cases q
  | other q1 q2 q3 => exact .inr ⟨q1, q2, q3⟩
 | put q => cases q
 | drop q => cases q
 | sync _ _ _ q => cases q
end Go.Proofs.YtheidjagcafgnaaGreatDoor
namespace Go.Proofs.YtheidjagcafgnaaGreatDoor
open Go.RowKit
theorem boolinfF : (Tryz.prog.info? 4).map (fun i => (i.zero, i.size, i.bytes)) = some (some (.bool false), 1, 1) := by kernel_rfl
theorem KM.crashed {w w1 w2 : World} {S : Nat → Prop} {s d mb cn : Nat} {m : Dk.DM} {b : Nat} {L Ls : List Ck} {sy hf i T : Nat} (h : KM w w1 S s d mb 1500 cn m b L Ls sy hf i T) (ha : After S w1 w2 d 1500 (Dk.cr m (kf 0 (fun _ => false))) b) :
  LD w w2 (grow S w1 w2) d 1500 (Dk.cr m (kf 0 (fun _ => false))) b ∧ (Dk.cr m (kf 0 (fun _ => false))).now = m.now :=
 ⟨LD.after (show LD w w1 S d 1500 m b from ⟨h.ls.st.D, h.ls.ext, h.ls.st.lo⟩) ha, Sto4.cr_calm h.calm _⟩
set_option linter.unusedSimpArgs false in
set_option maxHeartbeats 32000000 in
theorem storeFails_any (x : Option Addr) (n cap : Nat) (ch : Nat → Ch) (after : Int) (kx : Option Addr) (kn kc : Nat) (kb : Nat → Bool) (x2 : Option Addr) (n2 cap2 : Nat) (ch2 : Nat → Ch) (w : World) (E : Nat → Addr) (hE : Errs w E)
  (hx : Chs w x n ch) (hn : n ≤ maxLen) (hz : ∀ i, i < n → (ch i).text.size ≤ 140737488355328) (hk : Kp w kx kn kb) (hx2 : Chs w x2 n2 ch2) (hn2 : n2 ≤ maxLen) (hz2 : ∀ i, i < n2 → (ch2 i).text.size ≤ 140737488355328) :
  Calls Tryz.prog 7 #[.slice x n cap, .int .i64 after, .slice kx kn kc, .slice x2 n2 cap2] w fun e w' => e = .returned (.bool true) ∧ Ext w w' := by
 have HE := Lib.hid hE;have HX := Lib.hid hx;have HZ := Lib.hid hz;have HXM := Lib.hid hx2;have HZM := Lib.hid hz2;have HKP := Lib.hid hk;have HN2 := Lib.hid hn2;clear hE hx hz hx2 hz2 hk hn2;go_enter Tryz.func7, Tryz.ntmps7
 go_wp2_with fail;refine (hold_any w E HE.out).mono ?_;rintro e w1 ⟨rfl, hX⟩;have X1 := Lib.hid hX;clear hX;go_wp2_with fail;refine (light_any x n cap ch w1 (HX.out.ext X1.out) hn HZ.out).mono ?_;rintro e w2 ⟨⟨b1, rfl, hb1⟩, hw2⟩;obtain rfl := hw2;cases b1
 ·go_wp2_with fail;go_ret;exact ⟨rfl, X1.out⟩
 have FL := Lib.hid (hb1 rfl);clear hb1 hn HZ;go_wp2_with fail;refine (light_any x2 n2 cap2 ch2 w1 (HXM.out.ext X1.out) HN2.out HZM.out).mono ?_;rintro e w2 ⟨⟨b1, rfl, hb1⟩, hw2⟩;obtain rfl := hw2;cases b1
 ·go_wp2_with fail;go_ret;exact ⟨rfl, X1.out⟩
 have FM := Lib.hid (hb1 rfl);clear hb1 HN2 HZM;by_cases q1 : after < 0
 ·have t1 : decide (after < 0) = true := decide_eq_true q1;go_wp2_with fail;go_ret;exact ⟨rfl, X1.out⟩
 have t1 : decide (after < 0) = false := decide_eq_false q1;by_cases q2 : 5000 < after
 ·have t2 : decide (5000 < after) = true := decide_eq_true q2;go_wp2_with fail;go_ret;exact ⟨rfl, X1.out⟩
 have t2 : decide (5000 < after) = false := decide_eq_false q2;by_cases q3 : 2000 < kn
 ·have t3 : (2000 : Int) < (kn : Int) := by omega
  clear q1 q2 q3;go_wp2_with fail;go_ret;exact ⟨rfl, X1.out⟩
 have t3 : ¬ (2000 : Int) < (kn : Int) := by omega
 have hkn : kn ≤ 2000 := by omega
 have HAF : Hid (0 ≤ after ∧ after ≤ 5000) := Lib.hid (by omega);clear q1 q2 q3;go_wp2_with fail;refine (new_ok 1500 w1 (by omega)).mono ?_;rintro e w3 ⟨⟨d, rfl, hd⟩, hX⟩;have D3 := Lib.hid (show LD w w3 _ d 1500 Dk.new 0 from ⟨hd, X1.out.trans hX, fun k q => Nat.le_trans X1.out.size q.1⟩);clear hX hd X1 t1 t2 t3;go_wp2_with fail;refine (format_any w.heap.size d 1500 0 Dk.new _ w3 E (HE.out.ext D3.out.ext) HE.out.low HE.out.lowT D3.out.ds D3.out.ge D3.out.ext.size rfl (by omega)).mono ?_;rintro e w4 hP;unfold FmtP at hP;rw [if_neg (by omega)] at hP;obtain ⟨s, mb, S0, rfl, hS, _, _, h1, h2, hK⟩ := hP;have K4 := Lib.hid (KM.fmtd (show LS w w4 S0 s d mb 1500 0 (Sto4.fmt Dk.new) 0 [] 1 1 false from ⟨hS, LS.keep D3.out.ext hK D3.out.ge⟩) (Sto4.fmt_inv (m := Dk.new) (n := 1500) (fun k _ => zB_size 64) (by omega) (by omega)));clear hS hK h1 h2 D3;go_wp2_with fail;refine (dfail_any d 1500 0 _ after S0 w4 K4.out.ls.st.D HAF.out.1 (by have := HAF.out.2; omega)).mono ?_;rintro e w5 ⟨rfl, hA⟩;have K5 : Hid (KM w w5 (grow S0 w4 w5) s d mb 1500 0 { Sto4.fmt Dk.new with left := after } 0 [] [] 1 1 0 0) := Lib.hid (by
  have h := K4.out;exact ⟨h.ls.after hA, h.inv, h.calm, h.bb, h.cni, h.syi, h.nm, h.nms, h.len, h.lens, h.tot, h.tots⟩)
 clear hA K4 HAF;have hn60 : n ≤ 60 := FL.out.1.1;go_wp2_with fail;go_loopw [13, 14, 15, 16, 17] (fun z1 z2 z3 zl cc wr => ∃ (v1 v2 v3 : Value) (lb : Bool) (i : Nat), v1 = z1 ∧ v2 = z2 ∧ v3 = z3 ∧ zl = .bool lb ∧ i ≤ n ∧ cc = .int .i64 (i : Int) ∧ Hid (FR w wr s d mb i (20 * i + sumT ch i) lb v1 v2 v3)) (fun _ _ _ _ cc _ => n - (intOf cc).toNat)
 case atStart => exact ⟨_, _, _, false, 0, rfl, rfl, rfl, rfl, by omega, rfl, Lib.hid (.on _ _ _ _ _ _ _ _ _ _ K5.out (TxB.nil _ _) (TxB.nil _ _))⟩
 case round =>
  clear K5;obtain ⟨v1, v2, v3, lb, i, rfl, rfl, rfl, rfl, hi, rfl, HF⟩ := hrel;by_cases hlt : i < n
  ·as_aux_lemma =>
    have ht : (i : Int) < (n : Int) := by omega
    obtain ⟨a, rfl⟩ : ∃ a, x = some a := by
     cases x with
     | none => have := HX.out.1 rfl; omega
     | some a => exact ⟨a, rfl⟩
    have wi : ∀ z, z = (i : Int) + 1 → IntKind.i64.wrap z = z := by rintro _ rfl; rw [IntKind.wrap_i64]; omega
    have HC1 := Lib.hid (FL.out.1.2 i hlt);cases lb with
    | true => as_aux_lemma =>
     have hF := HF.out;cases hF with
     | off S cn m b L Ls sy hf _ _ _ hL hb hcn hsy hhf hI p1 p2 h2 h3 =>
     obtain ⟨c0, c1, c2⟩ := (HX.out.ext hL.ext).2 a rfl i hlt;have HDO := Lib.hid (do_any w wr E S s d mb 1500 cn m b L sy hf true (ch i) HE.out hL (by omega) hhf (by omega) (by omega) (by omega) (by have := HC1.out; omega) (by have := HC1.out; omega));rw [chV_lit] at HDO;have HO := Lib.hid (And.intro hb (And.intro hcn (And.intro hsy (And.intro hhf (And.intro hI (And.intro p1 (And.intro p2 (And.intro h2 h3))))))));clear hL hb hcn hsy hhf hI p1 p2 h2 h3;go_wp2_with fail;refine HDO.out.mono ?_;intro e w6 hP;obtain ⟨hL6, hX6, r, rfl, hr⟩ := lost_step hP;have L6 := Lib.hid hL6;have F6 : Hid (∀ w7, Ext w6 w7 → FR w w7 s d mb (i + 1) (20 * (i + 1) + sumT ch (i + 1)) true v1 v2 v3) := Lib.hid (fun w7 hX7 => by
      obtain ⟨hb, hcn, hsy, hhf, hI, p1, p2, h2, h3⟩ := HO.out;have hTT := sumT_step ch i;exact .off S cn m b L Ls sy hf _ _ _ (L6.out.step hX7) hb (by omega) (by omega) hhf (fun keep => by
       obtain ⟨X, sy', hf', hX, hs, hi'⟩ := hI keep;exact ⟨X, sy', hf', hX, by omega, hi'⟩) (p1.up (by omega) (by omega)) (p2.up (by omega) (by omega)) (h2.ext (hX6.trans hX7)) (h3.ext (hX6.trans hX7)))
     obtain ⟨c0, c1, c2⟩ := (HX.out.ext L6.out.ext).2 a rfl i hlt;clear hP hL6 hX6 HDO HO c1 c2;rcases hr with ⟨rfl, hk⟩ | ⟨q1, q2, q3⟩
     ·have HCD : Hid (Calls Tryz.prog 13 #[opV E (some 8), .int .i64 9] w6 fun e w' => e = .returned (.bool true) ∧ Ext w6 w') := Lib.hid ((coded_any w6 E (HE.out.ext L6.out.ext) _ _ _ 9 (opV_err w6 E (some 8) (by decide))).mono (by
       rintro e w' ⟨rfl, hX⟩;exact ⟨rfl, hX⟩))
      obtain ⟨rv, hrv⟩ : ∃ z, opV E (some 8) = z := ⟨_, rfl⟩;rw [hrv] at HCD ⊢;clear hrv;obtain ⟨kk, hkk⟩ : ∃ z, (ch i).kind = z := ⟨_, rfl⟩;rw [hkk] at c0 hk;clear hkk;rcases hk with rfl | rfl | rfl
      ·have t1 : (kPut.toList == [112, 117, 116]) = true := kisq _;go_wp2_with fail;refine HCD.out.mono ?_;rintro e w7 ⟨rfl, hX⟩;have F7 := Lib.hid (F6.out w7 hX);clear hX HCD F6;go_wp2_with fail;go_roundw
       case rel => exact ⟨_, _, _, true, i + 1, rfl, rfl, rfl, rfl, by omega, by go_num, F7⟩
       case measure => simp [intOf]; omega
      ·have t1 : (kDrop.toList == [112, 117, 116]) = false := by decide +kernel
       have t2 : (kDrop.toList == [100, 114, 111, 112]) = true := kisq _;go_wp2_with fail;refine HCD.out.mono ?_;rintro e w7 ⟨rfl, hX⟩;have F7 := Lib.hid (F6.out w7 hX);clear hX HCD F6;go_wp2_with fail;go_roundw
       case rel => exact ⟨_, _, _, true, i + 1, rfl, rfl, rfl, rfl, by omega, by go_num, F7⟩
       case measure => simp [intOf]; omega
      ·have t1 : (kSync.toList == [112, 117, 116]) = false := by decide +kernel
       have t2 : (kSync.toList == [100, 114, 111, 112]) = false := by decide +kernel
       have t3 : (kSync.toList == [115, 121, 110, 99]) = true := kisq _;go_wp2_with fail;refine HCD.out.mono ?_;rintro e w7 ⟨rfl, hX⟩;have F7 := Lib.hid (F6.out w7 hX);clear hX HCD F6;go_wp2_with fail;go_roundw
       case rel => exact ⟨_, _, _, true, i + 1, rfl, rfl, rfl, rfl, by omega, by go_num, F7⟩
       case measure => simp [intOf]; omega
     ·have t1 : ((ch i).kind.toList == [112, 117, 116]) = false := kneq q1;have t2 : ((ch i).kind.toList == [100, 114, 111, 112]) = false := kneq q2;have t3 : ((ch i).kind.toList == [115, 121, 110, 99]) = false := kneq q3;obtain ⟨rv, hrv⟩ : ∃ z, opV E r = z := ⟨_, rfl⟩;rw [hrv];have F7 := Lib.hid (F6.out w6 (Ext.refl _));clear hrv q1 q2 q3;go_wp2_with fail;go_roundw
      case rel => exact ⟨_, _, _, true, i + 1, rfl, rfl, rfl, rfl, by omega, by go_num, F7⟩
      case measure => simp [intOf]; omega
    | false => as_aux_lemma =>
     have hF := HF.out;cases hF with
     | on S cn m L Ls sy hf _ _ _ hK h1 h2 =>
     have HK := Lib.hid hK;have HT1 := Lib.hid h1;have HT2 := Lib.hid h2;clear hK h1 h2;obtain ⟨c0, c1, c2⟩ := (HX.out.ext HK.out.ls.ext).2 a rfl i hlt;have HDO := Lib.hid (do_any w wr E S s d mb 1500 cn m 0 L sy hf false (ch i) HE.out HK.out.ls (by omega) HK.out.inv.hf1 (by have := HK.out.syi; omega) (by omega) (by have := HK.out.cni; omega) (by have := HC1.out; omega) (by have := HC1.out; omega));rw [chV_lit] at HDO;go_wp2_with fail;refine HDO.out.mono ?_;intro e w6 hP;have hst := HK.out.step hP HC1.out.2 (by omega);clear hP HDO c0 c1 c2;cases hst with
     | full q hfu _ _ =>
      have h1 := HK.out.tot;have h2 := FL.out.2;have h3 := sumT_mono (ch := ch) (show i ≤ n by omega);omega
     | lost S' m' b' q hl hL hb' hI hKp hS' =>
      have L6 := Lib.hid hL;have U1 := Lib.hid (HT1.out.step hKp hS');have U2 := Lib.hid (HT2.out.step hKp hS');have HCD : Hid (Calls Tryz.prog 13 #[opV E (some 8), .int .i64 9] w6 fun e w' => e = .returned (.bool true) ∧ Ext w6 w') := Lib.hid ((coded_any w6 E (HE.out.ext L6.out.ext) _ _ _ 9 (opV_err w6 E (some 8) (by decide))).mono (by
       rintro e w' ⟨rfl, hX⟩;exact ⟨rfl, hX⟩))
      have F6 : Hid (∀ w7, Ext w6 w7 → FR w w7 s d mb (i + 1) (20 * (i + 1) + sumT ch (i + 1)) true v1 v2 v1) := Lib.hid (fun w7 hX7 => by
       have hTT := sumT_step ch i;have h := HK.out;have hsy := h.syi;have hcn := h.cni;exact .off S' cn m' b' L Ls sy hf _ _ _ (L6.out.step hX7) (by omega) (by omega) (by omega) h.inv.hf1 (fun keep => by
        rcases hI keep with hi' | hi'
        ·exact ⟨Ls, sy, hf, .inl rfl, by omega, hi'⟩
        ·exact ⟨L, sy + 1, 1 - hf, .inr rfl, by omega, hi'⟩) (PL.up ⟨h.len, h.nm, h.tot⟩ (by omega) (by omega)) (PL.up ⟨h.lens, h.nms, h.tots⟩ (by omega) (by omega)) (U2.out.ext hX7) (U1.out.ext hX7))
      have t3 : ((ch i).kind.toList == [115, 121, 110, 99]) = true := by rw [q]; exact kisq _
      obtain ⟨rv, hrv⟩ : ∃ z, opV E (some 8) = z := ⟨_, rfl⟩;rw [hrv] at HCD ⊢;clear hrv q hl hL hb' hI hKp hS' HK HT1 HT2 U1 U2;go_wp2_with fail;refine HCD.out.mono ?_;rintro e w7 ⟨rfl, hX⟩;have F7 := Lib.hid (F6.out w7 hX);obtain ⟨c0, c1, c2⟩ := (HX.out.ext (L6.out.ext.trans hX)).2 a rfl i hlt;clear hX c1 c2 F6 L6 HCD;go_wp2_with fail;go_roundw
      case rel => exact ⟨_, _, _, true, i + 1, rfl, rfl, rfl, rfl, by omega, by go_num, F7⟩
      case measure => simp [intOf]; omega
     | fine S' cn' m' b' sy' hf' r L' Ls' hch hr9 hr7 hr8 hKR hKp hS' hb' hl' =>
      obtain rfl : b' = 0 := by omega
      have K6 := Lib.hid hKR;have U1 := Lib.hid (HT1.out.step hKp hS');have U2 := Lib.hid (HT2.out.step hKp hS');have HCD9 : Hid (Calls Tryz.prog 13 #[opV E r, .int .i64 9] w6 fun e w' => e = .returned (.bool false) ∧ Ext w6 w') := Lib.hid ((coded_any w6 E (HE.out.ext K6.out.ls.ext) _ _ _ 9 (opV_err w6 E r hr9)).mono (by
       rintro e w' ⟨rfl, hX⟩;refine ⟨?_, hX⟩;have : ¬ ((opC r : Int) = 9 ∧ (-1 : Int) = -1) := fun q => hr8 (by
        have h8 : opC r = 9 := by have := q.1; omega
        cases r with
        | none => cases h8
        | some c => exact congrArg some (by have : c + 1 = 9 := h8; omega))
       rw [decide_eq_false this]))
      have HCD : Hid (∀ wz, Ext w6 wz → Calls Tryz.prog 13 #[opV E r, .int .i64 (opC r : Int)] wz fun e w' => e = .returned (.bool true) ∧ Ext wz w') := Lib.hid (fun wz hz => (coded_any wz E (HE.out.ext (K6.out.ls.ext.trans hz)) _ _ _ (opC r : Int) (opV_err wz E r hr9)).mono (by
       rintro e w' ⟨rfl, hX⟩;exact ⟨by rw [decide_eq_true ⟨rfl, rfl⟩], hX⟩))
      have hTb : L.length ≤ 10000 := by have := HK.out.len; omega
      have HCH : Hid (∀ wz, Ext w6 wz → Calls Tryz.prog 15 #[v1, v2, chV (ch i)] wz fun e w' => Ext wz w' ∧ ∃ u1 u2, e = .returned (.tuple #[u1, u2, .int .i64 (opC r : Int)]) ∧ TxB w' (offS S' s mb) u1 L' ∧ TxB w' (offS S' s mb) u2 Ls') := Lib.hid (fun wz hz => (change_any v1 v2 L Ls (ch i) (offS S' s mb) wz (U1.out.ext hz) (U2.out.ext hz) (fun k hk => K6.out.ls.off k (Nat.le_trans hz.size hk)) hTb (by have := HC1.out; unfold maxLen; omega)).mono (by
       rintro e w' ⟨hX, u1, u2, rfl, g1, g2⟩;rw [hch] at g1 g2 ⊢;exact ⟨hX, u1, u2, rfl, g1, g2⟩))
      rw [chV_lit] at HCH;obtain ⟨rv, hrv⟩ : ∃ z, opV E r = z := ⟨_, rfl⟩;rw [hrv] at HCD HCD9 ⊢;obtain ⟨rc, hrc⟩ : ∃ z : Int, (opC r : Int) = z := ⟨_, rfl⟩;rw [hrc] at HCD HCH;clear hrv hrc hch hr9 hr7 hr8 hKR hKp hS' hb' hl' U1 U2 HK HT1 HT2 hTb;go_wp2_with fail;refine HCD9.out.mono ?_;rintro e w7 ⟨rfl, hX⟩;have HX7 := Lib.hid hX;obtain ⟨c0, c1, c2⟩ := (HX.out.ext (K6.out.ls.ext.trans hX)).2 a rfl i hlt;clear hX HCD9;go_wp2_with fail;refine (HCH.out w7 HX7.out).mono ?_;rintro e w8 ⟨hX, u1, u2, rfl, g1, g2⟩;have HX8 := Lib.hid (HX7.out.trans hX);have G1 := Lib.hid g1;have G2 := Lib.hid g2;clear hX g1 g2 HX7 HCH c0 c1 c2;go_wp2_with fail;refine (HCD.out w8 HX8.out).mono ?_;rintro e w9 ⟨rfl, hX⟩;have F7 : Hid (FR w w9 s d mb (i + 1) (20 * (i + 1) + sumT ch (i + 1)) false u1 u2 v3) := Lib.hid (.on S' cn' m' L' Ls' sy' hf' _ _ _ (K6.out.up (HX8.out.trans hX) (Nat.le_refl _) (Nat.le_of_eq (sumT_step ch i))) (G1.out.ext hX) (G2.out.ext hX));clear hX HX8 G1 G2 K6 HCD;go_wp2_with fail;go_roundw
      case rel => exact ⟨_, _, _, false, i + 1, rfl, rfl, rfl, rfl, by omega, by go_num, F7⟩
      case measure => simp [intOf]; omega
  ·as_aux_lemma =>
    obtain rfl : i = n := by omega
    have ht : ¬ (i : Int) < (i : Int) := by omega
    have HFE := Lib.hid (HF.out.fe hn60 (by have := FL.out.2; omega));clear HF;go_upto_if 149 with fail
    go_cut [15] from 148 to 150 (fun z3 wx => ∃ v3 : Value, v3 = z3 ∧ Hid (FE w wx d v2 v3))
    case first => as_aux_lemma =>
     cases lb
     ·go_wp2_with fail;go_meet
      exact ⟨_, rfl, HFE⟩
     ·go_wp2_with fail;go_meet
      exact ⟨_, rfl, HFE⟩
    case rest => as_aux_lemma =>
    clear HFE;obtain ⟨v3', rfl, HFE⟩ := hcut;rename World => wk1;obtain ⟨S, m, b, Ls, Nx, hD, hb, hI, h2, h3, p1, p2⟩ := HFE.out;have D2 := Lib.hid hD;have HR := Lib.hid (And.intro hI (And.intro h2 (And.intro h3 (And.intro p1 p2))));clear hD hI h2 h3 p1 p2 HFE;go_upto_region 32 with fail;go_cut [] from 151 to 155 (fun wx => Hid (FC w wx d v2 v3'))
    case first => as_aux_lemma =>
     obtain ⟨i0, hi0, hz0, hz1, hz2⟩ := info_parts boolinfF;cases kx with
     | none =>
      obtain rfl : kn = 0 := HKP.out.1 rfl;go_wp2_with (at_builtin; refine wpList_append_own_none rfl _ _ 49 rfl 0 4 i0 1 Tryz.underlying49 hi0 (.slice none 0 0) 0 [] rfl (World.ownsRow_nil _ _ _ _) rfl ?_);refine (crash_any d 1500 b m S wk1 D2.out.ds (by omega) none 0 0 kb ⟨fun _ => rfl, fun a ha => by cases ha⟩ (by omega)).mono ?_;rintro e w3 ⟨rfl, hA⟩;have HFC := Lib.hid (FE.crash _ D2.out hb HR.out.1 HR.out.2.1 HR.out.2.2.1 HR.out.2.2.2.1 HR.out.2.2.2.2 hA);clear hA;go_wp2_with fail;go_meet
      exact HFC
     | some ka =>
      go_wp2_with (at_builtin; refine wpList_append_own_at _ rfl _ _ 49 rfl wk1.heap.size 4 i0 (.bool false) 1 1 Tryz.underlying49 hi0 hz0 hz1 hz2 rfl (by decide) (.slice none 0 0) 0 [] rfl (World.ownsRow_nil _ _ _ _) ka kn kc (boolsV kn kb) rfl ?c0 ?c1 ?c2 ?c3 ?c4 ?c5 ?_)
      case c0 => rw [boolsV_length]
      case c1 =>
       intro q u hq;have hqn : q < kn := by
        have := (List.getElem?_eq_some_iff.1 hq).1;rwa [boolsV_length] at this
       rw [boolsV_get hqn] at hq;injection hq with hq;subst hq;have h1 := HKP.out.2 ka rfl q hqn;exact (D2.out.ext.keeps (S := fun _ => False) |>.cell (World.block_lt_of_cell? w _ h1) id).trans h1
      case c2 => intro u hu; obtain ⟨x, _, rfl⟩ := List.mem_map.1 hu; rfl
      case c3 => unfold maxLen; omega
      case c4 => omega
      intro v4 w2 hown hgrow hnil hat;have ho : w2.ownsRow wk1.heap.size 4 1 v4 kn (boolsV kn kb) := hown;have hX : Ext wk1 w2 := (Below.refl _ wk1).grown hgrow (Nat.le_refl _) (by intro k hk; simp [Value.ownBlock] at hk);obtain ⟨vx, vc, rfl, _, hv0⟩ := own_form ho;have HKR : Hid (KR w2 S vx kn kb) := Lib.hid ⟨hv0, fun a ha q hq => by
       subst ha;rcases ho.2 with ⟨hv, _⟩ | ⟨g, cap, cur, hv, hg, _⟩
       ·cases hv
       ·injection hv with hv;injection hv with hv;subst hv;rw [add_plain];exact ⟨by rw [ho.cellAt q (by omega), boolsV_get hq], fun z => by have q1 : g < wk1.heap.size := D2.out.ds.lt _ z; omega⟩⟩
      have D3 := Lib.hid (D2.out.step hX);have HT := Lib.hid (And.intro (HR.out.2.1.ext hX) (HR.out.2.2.1.ext hX));clear ho hown hgrow hnil hat hX hv0 D2;go_wp2_with fail;refine (crash_any d 1500 b m S w2 D3.out.ds (by omega) vx kn vc kb HKR.out (by omega)).mono ?_;rintro e w3 ⟨rfl, hA⟩;have HFC := Lib.hid (FE.crash _ D3.out hb HR.out.1 HT.out.1 HT.out.2 HR.out.2.2.2.1 HR.out.2.2.2.2 hA);clear hA;go_wp2_with fail;go_meet
      exact HFC
    case rest => as_aux_lemma =>
    clear D2 HR hb;rename World => wk2;have HFC := hcut;clear hcut;obtain ⟨S, m, b, Ls, Nx, X, sy, hf, hD, hb, hl, hcm, hX, hsy, hI, h2, h3, p1, p2⟩ := HFC.out;have D2 := Lib.hid hD;have HI := Lib.hid hI;have HCM := Lib.hid (And.intro hl hcm);have P1 := Lib.hid p1;have PX : Hid (PL 61 9200 X) := Lib.hid (by
     rcases hX with rfl | rfl
     ·exact p1
     ·exact p2)
    have HXX := Lib.hid hX;obtain ⟨y2, r2, rfl, hC2, hbk2⟩ := h2;obtain ⟨y3, r3, rfl, hC3, hbk3⟩ := h3;have TC := Lib.hid (And.intro hC2 hC3);have OB : Hid ((∀ a, y2 = some a → ¬ S a.block ∧ a.block < wk2.heap.size) ∧ (∀ a, y3 = some a → ¬ S a.block ∧ a.block < wk2.heap.size)) := Lib.hid ⟨hbk2, hbk3⟩;have P2 := Lib.hid p2;clear hD hcm hl hI p1 p2 hX hC2 hC3 hbk2 hbk3 HFC;go_wp2_with fail;refine (open_any d 1500 _ _ _ wk2 E (HE.out.ext D2.out.ext) D2.out.ds (by omega) (fun k hk => HI.out.all k hk)).mono ?_;rintro e w10 hP;rw [HI.out.opens] at hP;obtain ⟨hX, s', mb', rfl, hB, hT, h1, h2, h3⟩ := hP;have L10 := Lib.hid (LS.opened D2.out.ext hX D2.out.ds D2.out.ge hB hT h1 h2 h3 (by have := PX.out.len; omega) HI.out.it HI.out.so);have T10 := Lib.hid (And.intro (TC.out.1.ext hX) (TC.out.2.ext hX));have OF : Hid ((∀ a, y2 = some a → offS S s' mb' a.block ∧ a.block < w10.heap.size) ∧ (∀ a, y3 = some a → offS S s' mb' a.block ∧ a.block < w10.heap.size)) := Lib.hid ⟨fun a ha => by
     have := OB.out.1 a ha;have hz := hX.size;exact ⟨⟨this.1, by omega, by omega⟩, by omega⟩, fun a ha => by
     have := OB.out.2 a ha;have hz := hX.size;exact ⟨⟨this.1, by omega, by omega⟩, by omega⟩⟩
    clear hX hB hT h1 h2 h3 D2 TC OB;go_wp2_with fail;refine (holds_any y2 r2 Ls w w10 S s' d mb' 1500 _ _ b X sy hf false E HE.out L10.out T10.out.1 (by have := P1.out.len; omega) (fun c hc => by have := P1.out.nm c hc; unfold maxLen; omega) (by have := PX.out.len; omega)).mono ?_;rintro e w11 ⟨hH, hX⟩;rcases hH with ⟨rfl, rfl⟩ | ⟨hne, rfl⟩
    ·as_aux_lemma =>
      have K11 := Lib.hid (KM.opened (L10.out.step hX) HI.out HCM.out.2 hb hsy P1.out);have T11 := Lib.hid (T10.out.1.ext hX);have TB11 : Hid (TxB w11 (offS S s' mb') (.slice y2 Ls.length r2) Ls) := Lib.hid ⟨_, _, rfl, T11.out, fun a ha => ⟨(OF.out.1 a ha).1, Nat.lt_of_lt_of_le (OF.out.1 a ha).2 hX.size⟩⟩;have LFT := Lib.hid HCM.out.1;clear hX L10 T10 HI HCM HXX P2 PX;go_wp2_with fail;have hm60 : n2 ≤ 60 := FM.out.1.1;go_loopw [13, 14, 24] (fun z1 z2 cc wr => ∃ (v1 v2 : Value) (j : Nat) (S : Nat → Prop) (cn : Nat) (m : Dk.DM) (b : Nat) (L Ls : List Ck) (sy hf : Nat), v1 = z1 ∧ v2 = z2 ∧ j ≤ n2 ∧ cc = .int .i64 (j : Int) ∧ Hid (KM w wr S s' d mb' 1500 cn m b L Ls sy hf (61 + j) (9200 + (20 * j + sumT ch2 j))) ∧ Hid (m.left = -1) ∧
       Hid (TxB wr (offS S s' mb') v1 L) ∧ Hid (TxB wr (offS S s' mb') v2 Ls)) (fun _ _ cc _ => n2 - (intOf cc).toNat)
      case atStart => exact ⟨_, _, 0, _, _, _, _, _, _, _, _, rfl, rfl, by omega, rfl, K11, LFT, TB11, TB11⟩
      case round =>
       clear K11 LFT TB11 T11;obtain ⟨v1, v2, j, S, cn, m, b, L, Ls, sy, hf, rfl, rfl, hj, rfl, HK, HL, HT1, HT2⟩ := hrel;by_cases hlt : j < n2
       ·as_aux_lemma =>
         have ht : (j : Int) < (n2 : Int) := by omega
         obtain ⟨a, rfl⟩ : ∃ a, x2 = some a := by
          cases x2 with
          | none => have := HXM.out.1 rfl; omega
          | some a => exact ⟨a, rfl⟩
         obtain ⟨c0, c1, c2⟩ := (HXM.out.ext HK.out.ls.ext).2 a rfl j hlt;have wi : ∀ z, z = (j : Int) + 1 → IntKind.i64.wrap z = z := by rintro _ rfl; rw [IntKind.wrap_i64]; omega
         have HC1 := Lib.hid (FM.out.1.2 j hlt);have HCH := Lib.hid (change_any v1 v2 L Ls (ch2 j) (offS S s' mb') wr HT1.out HT2.out HK.out.ls.off (by have := HK.out.len; omega) (by have := HC1.out; unfold maxLen; omega));rw [chV_lit] at HCH;go_wp2_with fail;refine HCH.out.mono ?_;rintro e w5 ⟨hX, u1, u2, rfl, hT1, hT2⟩;have K5 := Lib.hid (HK.out.up hX (Nat.le_refl _) (Nat.le_refl _));have U1 := Lib.hid hT1;have U2 := Lib.hid hT2;clear hX hT1 hT2 HCH c0 c1 c2 HT1 HT2 HK;obtain ⟨c0, c1, c2⟩ := (HXM.out.ext K5.out.ls.ext).2 a rfl j hlt;have HDO := Lib.hid (do_any w w5 E S s' d mb' 1500 cn m b L sy hf false (ch2 j) HE.out K5.out.ls (by omega) K5.out.inv.hf1 (by have := K5.out.syi; omega) (by have := K5.out.bb; omega) (by have := K5.out.cni; omega) (by have := HC1.out; omega) (by have := HC1.out; omega));rw [chV_lit] at HDO;obtain ⟨ec, hec⟩ : ∃ z, (chg L Ls (ch2 j)).2.2 = z := ⟨_, rfl⟩;rw [hec];have HEC := Lib.hid hec;clear hec;go_wp2_with fail;refine HDO.out.mono ?_;intro e w6 hP;have hst := K5.out.step hP HC1.out.2 (by omega);clear hP HDO c0 c1 c2;cases hst with
         | full q hfu _ _ =>
          have h1 := K5.out.tot;have h2 := FM.out.2;have h3 := sumT_mono (ch := ch2) (show j ≤ n2 by omega);omega
         | lost S' m' b' q hl => exact absurd HL.out hl
         | fine S' cn' m' b' sy' hf' r L' Ls' hch hr9 hr7 hr8 hKR hKp hS' hb' hl' =>
          obtain rfl : ec = opC r := by rw [← HEC.out, hch]
          rw [hch] at U1 U2;have K6 := Lib.hid hKR;have U1' := Lib.hid (U1.out.step hKp hS');have U2' := Lib.hid (U2.out.step hKp hS');have HL6 := Lib.hid (hl' HL.out);have HCD : Hid (Calls Tryz.prog 13 #[opV E r, .int .i64 (opC r : Int)] w6 fun e w' => e = .returned (.bool true) ∧ Ext w6 w') := Lib.hid ((coded_any w6 E (HE.out.ext K6.out.ls.ext) _ _ _ (opC r : Int) (opV_err w6 E r hr9)).mono (by
           rintro e w' ⟨rfl, hX⟩;exact ⟨by rw [decide_eq_true ⟨rfl, rfl⟩], hX⟩))
          obtain ⟨rv, hrv⟩ : ∃ z, opV E r = z := ⟨_, rfl⟩;rw [hrv] at HCD ⊢;obtain ⟨rc, hrc⟩ : ∃ z : Int, (opC r : Int) = z := ⟨_, rfl⟩;rw [hrc] at HCD ⊢;clear hrv hrc hch hr9 hr7 hr8 hKR hKp hS' hb' hl' U1 U2 HEC HL K5;go_wp2_with fail;refine HCD.out.mono ?_;rintro e w7 ⟨rfl, hX⟩;have K7 := Lib.hid (K6.out.up hX (Nat.le_of_eq (Nat.add_assoc 61 j 1)) (show 9200 + (20 * j + sumT ch2 j) + 20 + (ch2 j).text.size ≤ 9200 + (20 * (j + 1) + sumT ch2 (j + 1)) by have := sumT_step ch2 j; omega));have V1 := Lib.hid (U1'.out.ext hX);have V2 := Lib.hid (U2'.out.ext hX);clear hX HCD K6 U1' U2';go_wp2_with fail;go_roundw
          case rel => exact ⟨_, _, j + 1, S', cn', m', b', L', Ls', sy', hf', rfl, rfl, by omega, by go_num, K7, HL6, V1, V2⟩
          case measure => simp [intOf]; omega
       ·as_aux_lemma =>
         obtain rfl : j = n2 := by omega
         have ht : ¬ (j : Int) < (j : Int) := by omega
         obtain ⟨q2, g2, rfl, hC2, hbk2⟩ := HT2.out;have VC2 := Lib.hid (And.intro hC2 hbk2);have HB : Hid (Ls.length ≤ 100000 ∧ ∀ c ∈ Ls, c.k.size ≤ maxLen) := Lib.hid ⟨by have := HK.out.lens; omega, fun c hc => by have := HK.out.nms c hc; unfold maxLen; omega⟩;clear hC2 hbk2 HT1 HT2;go_wp2_with fail;refine (crash_any d 1500 b m S wr HK.out.ls.st.D (by have := HK.out.bb; omega) none 0 0 (fun _ => false) ⟨fun _ => rfl, fun a h => by cases h⟩ (by omega)).mono ?_;rintro e w8 ⟨rfl, hA⟩;have D8 := Lib.hid (HK.out.crashed hA);have X8 : Hid (Cks w8 q2 Ls) := Lib.hid (VC2.out.1.keeps hA.2 (fun a ha q => (VC2.out.2 a ha).1.1 q));clear hA;go_wp2_with fail;refine (open_any d 1500 _ _ _ w8 E (HE.out.ext D8.out.1.ext) D8.out.1.ds (by omega) (fun k hk => by rw [D8.out.2]; exact HK.out.inv.all k hk)).mono ?_;rintro e w10 hP;rw [D8.out.2, HK.out.inv.opens] at hP;obtain ⟨hX, s9, mb9, rfl, hB, hT, h1, h2, h3⟩ := hP;have L10 := Lib.hid (LS.opened D8.out.1.ext hX D8.out.1.ds D8.out.1.ge hB hT h1 h2 h3 HB.out.1 HK.out.inv.it HK.out.inv.so);have X10 := Lib.hid (X8.out.ext hX);clear hX hB hT h1 h2 h3 D8 HK;go_wp2_with fail;refine (holds_any q2 g2 Ls w w10 _ s9 d mb9 1500 _ _ b Ls sy hf false E HE.out L10.out X10.out HB.out.1 HB.out.2 HB.out.1).mono ?_;rintro e w11 ⟨hH, hX⟩;obtain rfl : e = .returned (.bool true) := by
          rcases hH with ⟨_, h⟩ | ⟨h, _⟩
          ·exact h
          ·exact absurd rfl h
         have X11 := Lib.hid (L10.out.ext.trans hX);clear hX hH L10;go_wp2_with fail;go_ret;exact ⟨rfl, X11.out⟩
    ·as_aux_lemma =>
      obtain rfl : X = Nx := by
       rcases HXX.out with h | h
       ·exact absurd h.symm hne
       ·exact h
      have L11 := Lib.hid (L10.out.step hX);have T11' := Lib.hid (T10.out.2.ext hX);have HX11 := Lib.hid hX.size;clear hX hne HXX L10 T10;go_wp2_with fail;refine (holds_any y3 r3 X w w11 S s' d mb' 1500 _ _ b X sy hf false E HE.out L11.out T11'.out (by have := PX.out.len; omega) (fun c hc => by have := PX.out.nm c hc; unfold maxLen; omega) (by have := PX.out.len; omega)).mono ?_;rintro e w12 ⟨hH, hX⟩;obtain rfl : e = .returned (.bool true) := by
       rcases hH with ⟨_, h⟩ | ⟨h, _⟩
       ·exact h
       ·exact absurd rfl h
      have K11 := Lib.hid (KM.opened (L11.out.step hX) HI.out HCM.out.2 hb hsy P2.out);have T11 := Lib.hid (T11'.out.ext hX);have TB11 : Hid (TxB w12 (offS S s' mb') (.slice y3 X.length r3) X) := Lib.hid ⟨_, _, rfl, T11.out, fun a ha => ⟨(OF.out.2 a ha).1, Nat.lt_of_lt_of_le (OF.out.2 a ha).2 (Nat.le_trans HX11.out hX.size)⟩⟩;have LFT := Lib.hid HCM.out.1;clear hX hH L11 T11' HI HCM P2 PX;go_wp2_with fail;have hm60 : n2 ≤ 60 := FM.out.1.1;go_loopw [13, 14, 24] (fun z1 z2 cc wr => ∃ (v1 v2 : Value) (j : Nat) (S : Nat → Prop) (cn : Nat) (m : Dk.DM) (b : Nat) (L Ls : List Ck) (sy hf : Nat), v1 = z1 ∧ v2 = z2 ∧ j ≤ n2 ∧ cc = .int .i64 (j : Int) ∧ Hid (KM w wr S s' d mb' 1500 cn m b L Ls sy hf (61 + j) (9200 + (20 * j + sumT ch2 j))) ∧ Hid (m.left = -1) ∧
       Hid (TxB wr (offS S s' mb') v1 L) ∧ Hid (TxB wr (offS S s' mb') v2 Ls)) (fun _ _ cc _ => n2 - (intOf cc).toNat)
      case atStart => exact ⟨_, _, 0, _, _, _, _, _, _, _, _, rfl, rfl, by omega, rfl, K11, LFT, TB11, TB11⟩
      case round =>
       clear K11 LFT TB11 T11;obtain ⟨v1, v2, j, S, cn, m, b, L, Ls, sy, hf, rfl, rfl, hj, rfl, HK, HL, HT1, HT2⟩ := hrel;by_cases hlt : j < n2
       ·as_aux_lemma =>
         have ht : (j : Int) < (n2 : Int) := by omega
         obtain ⟨a, rfl⟩ : ∃ a, x2 = some a := by
          cases x2 with
          | none => have := HXM.out.1 rfl; omega
          | some a => exact ⟨a, rfl⟩
         obtain ⟨c0, c1, c2⟩ := (HXM.out.ext HK.out.ls.ext).2 a rfl j hlt;have wi : ∀ z, z = (j : Int) + 1 → IntKind.i64.wrap z = z := by rintro _ rfl; rw [IntKind.wrap_i64]; omega
         have HC1 := Lib.hid (FM.out.1.2 j hlt);have HCH := Lib.hid (change_any v1 v2 L Ls (ch2 j) (offS S s' mb') wr HT1.out HT2.out HK.out.ls.off (by have := HK.out.len; omega) (by have := HC1.out; unfold maxLen; omega));rw [chV_lit] at HCH;go_wp2_with fail;refine HCH.out.mono ?_;rintro e w5 ⟨hX, u1, u2, rfl, hT1, hT2⟩;have K5 := Lib.hid (HK.out.up hX (Nat.le_refl _) (Nat.le_refl _));have U1 := Lib.hid hT1;have U2 := Lib.hid hT2;clear hX hT1 hT2 HCH c0 c1 c2 HT1 HT2 HK;obtain ⟨c0, c1, c2⟩ := (HXM.out.ext K5.out.ls.ext).2 a rfl j hlt;have HDO := Lib.hid (do_any w w5 E S s' d mb' 1500 cn m b L sy hf false (ch2 j) HE.out K5.out.ls (by omega) K5.out.inv.hf1 (by have := K5.out.syi; omega) (by have := K5.out.bb; omega) (by have := K5.out.cni; omega) (by have := HC1.out; omega) (by have := HC1.out; omega));rw [chV_lit] at HDO;obtain ⟨ec, hec⟩ : ∃ z, (chg L Ls (ch2 j)).2.2 = z := ⟨_, rfl⟩;rw [hec];have HEC := Lib.hid hec;clear hec;go_wp2_with fail;refine HDO.out.mono ?_;intro e w6 hP;have hst := K5.out.step hP HC1.out.2 (by omega);clear hP HDO c0 c1 c2;cases hst with
         | full q hfu _ _ =>
          have h1 := K5.out.tot;have h2 := FM.out.2;have h3 := sumT_mono (ch := ch2) (show j ≤ n2 by omega);omega
         | lost S' m' b' q hl => exact absurd HL.out hl
         | fine S' cn' m' b' sy' hf' r L' Ls' hch hr9 hr7 hr8 hKR hKp hS' hb' hl' =>
          obtain rfl : ec = opC r := by rw [← HEC.out, hch]
          rw [hch] at U1 U2;have K6 := Lib.hid hKR;have U1' := Lib.hid (U1.out.step hKp hS');have U2' := Lib.hid (U2.out.step hKp hS');have HL6 := Lib.hid (hl' HL.out);have HCD : Hid (Calls Tryz.prog 13 #[opV E r, .int .i64 (opC r : Int)] w6 fun e w' => e = .returned (.bool true) ∧ Ext w6 w') := Lib.hid ((coded_any w6 E (HE.out.ext K6.out.ls.ext) _ _ _ (opC r : Int) (opV_err w6 E r hr9)).mono (by
           rintro e w' ⟨rfl, hX⟩;exact ⟨by rw [decide_eq_true ⟨rfl, rfl⟩], hX⟩))
          obtain ⟨rv, hrv⟩ : ∃ z, opV E r = z := ⟨_, rfl⟩;rw [hrv] at HCD ⊢;obtain ⟨rc, hrc⟩ : ∃ z : Int, (opC r : Int) = z := ⟨_, rfl⟩;rw [hrc] at HCD ⊢;clear hrv hrc hch hr9 hr7 hr8 hKR hKp hS' hb' hl' U1 U2 HEC HL K5;go_wp2_with fail;refine HCD.out.mono ?_;rintro e w7 ⟨rfl, hX⟩;have K7 := Lib.hid (K6.out.up hX (Nat.le_of_eq (Nat.add_assoc 61 j 1)) (show 9200 + (20 * j + sumT ch2 j) + 20 + (ch2 j).text.size ≤ 9200 + (20 * (j + 1) + sumT ch2 (j + 1)) by have := sumT_step ch2 j; omega));have V1 := Lib.hid (U1'.out.ext hX);have V2 := Lib.hid (U2'.out.ext hX);clear hX HCD K6 U1' U2';go_wp2_with fail;go_roundw
          case rel => exact ⟨_, _, j + 1, S', cn', m', b', L', Ls', sy', hf', rfl, rfl, by omega, by go_num, K7, HL6, V1, V2⟩
          case measure => simp [intOf]; omega
       ·as_aux_lemma =>
         obtain rfl : j = n2 := by omega
         have ht : ¬ (j : Int) < (j : Int) := by omega
         obtain ⟨q2, g2, rfl, hC2, hbk2⟩ := HT2.out;have VC2 := Lib.hid (And.intro hC2 hbk2);have HB : Hid (Ls.length ≤ 100000 ∧ ∀ c ∈ Ls, c.k.size ≤ maxLen) := Lib.hid ⟨by have := HK.out.lens; omega, fun c hc => by have := HK.out.nms c hc; unfold maxLen; omega⟩;clear hC2 hbk2 HT1 HT2;go_wp2_with fail;refine (crash_any d 1500 b m S wr HK.out.ls.st.D (by have := HK.out.bb; omega) none 0 0 (fun _ => false) ⟨fun _ => rfl, fun a h => by cases h⟩ (by omega)).mono ?_;rintro e w8 ⟨rfl, hA⟩;have D8 := Lib.hid (HK.out.crashed hA);have X8 : Hid (Cks w8 q2 Ls) := Lib.hid (VC2.out.1.keeps hA.2 (fun a ha q => (VC2.out.2 a ha).1.1 q));clear hA;go_wp2_with fail;refine (open_any d 1500 _ _ _ w8 E (HE.out.ext D8.out.1.ext) D8.out.1.ds (by omega) (fun k hk => by rw [D8.out.2]; exact HK.out.inv.all k hk)).mono ?_;rintro e w10 hP;rw [D8.out.2, HK.out.inv.opens] at hP;obtain ⟨hX, s9, mb9, rfl, hB, hT, h1, h2, h3⟩ := hP;have L10 := Lib.hid (LS.opened D8.out.1.ext hX D8.out.1.ds D8.out.1.ge hB hT h1 h2 h3 HB.out.1 HK.out.inv.it HK.out.inv.so);have X10 := Lib.hid (X8.out.ext hX);clear hX hB hT h1 h2 h3 D8 HK;go_wp2_with fail;refine (holds_any q2 g2 Ls w w10 _ s9 d mb9 1500 _ _ b Ls sy hf false E HE.out L10.out X10.out HB.out.1 HB.out.2 HB.out.1).mono ?_;rintro e w11 ⟨hH, hX⟩;obtain rfl : e = .returned (.bool true) := by
          rcases hH with ⟨_, h⟩ | ⟨h, _⟩
          ·exact h
          ·exact absurd rfl h
         have X11 := Lib.hid (L10.out.ext.trans hX);clear hX hH L10;go_wp2_with fail;go_ret;exact ⟨rfl, X11.out⟩
end Go.Proofs.YtheidjagcafgnaaGreatDoor
