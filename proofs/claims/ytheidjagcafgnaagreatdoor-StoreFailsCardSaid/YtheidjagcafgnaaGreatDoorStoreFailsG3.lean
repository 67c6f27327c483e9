/-
  slices.Clone, slices.Repeat of rows of strings.
  A disk: what acts do to it. No function of the program is named.
  A disk in memory. No function of the program is named.
  The world of a region that draws its order, under a name. No function of the program is named.
  disk.Disk: spend, Fail, Read, Write, Flush.
  disk.Disk: Write, Flush.
  disk.Disk: Crash.
  disk.New, Sectors, Waiting; fresh.
  The store's small functions: half, item, head, take, Get, Drop.
  Quiet regions that draw, step by step (as in XRfA; for seats without the reader).
-/
import Derived.Test.YtheidjagcafgnaaGreatDoorStoreFailsG1
import Derived.Test.YtheidjagcafgnaaGreatDoorStoreFailsG2
import Derived.Deep.OwnRows
import Derived.Deep.DeepCutAuto
import Derived.Deep.RegionHeld3
import Derived.RegionTactic
import Derived.BigQuiet
import Derived.StillTailTactics
import Derived.StillTactics
set_option linter.unusedSimpArgs false
set_option linter.unusedVariables false
set_option maxRecDepth 100000
namespace Go.Proofs.YtheidjagcafgnaaGreatDoor
open Go.RowKit
theorem strinf : (Tryz.prog.info? 9).map (fun i => (i.zero, i.size, i.bytes)) = some (some (.string ⟨#[]⟩), 1, 16) := by kernel_rfl
theorem strSz : (Tryz.prog.info? 9).map (·.size) = some 1 := by kernel_rfl
/-- a row of strings in a block of its own -/
def Sr (w : World) (g n : Nat) (f : Nat → ByteArray) : Prop := Cv w g n (fun i => .string (f i))
def strsV (n : Nat) (f : Nat → ByteArray) : List Value := (List.range n).map fun i => .string (f i)
theorem strsV_length (n : Nat) (f : Nat → ByteArray) : (strsV n f).length = n := by simp [strsV]
theorem strsV_get {n : Nat} {f : Nat → ByteArray} {j : Nat} (hj : j < n) : (strsV n f)[j]? = some (.string (f j)) := by simp [strsV, hj]
theorem Sr.of_own {w : World} {B g n c : Nat} {f : Nat → ByteArray} (h : w.ownsRow B 9 1 (.slice (some ⟨g, 0, none⟩) n c) n (strsV n f)) : Sr w g n f := by
 intro i hi;refine ⟨by rw [h.cellAt i (by omega), strsV_get hi], ?_⟩;rcases h.2 with ⟨hv, _⟩ | ⟨g', cap', cur, hv, h1, h2, _⟩
 ·cases hv
 ·injection hv with hv; injection hv with hv; injection hv with hv;subst hv;simp [World.frozen?, h2]
theorem clone_strs (g n c : Nat) (f : Nat → ByteArray) (w : World) (hx : Sr w g n f) (h0 : 0 < n) (hn : n ≤ 10000) :
  Calls Tryz.prog 29 #[.slice (some ⟨g, 0, none⟩) n c] w fun e w' => (∃ g' c', e = .returned (.slice (some ⟨g', 0, none⟩) n c') ∧ Sr w' g' n f ∧ w.heap.size ≤ g' ∧ g' < w'.heap.size) ∧ Ext w w' := by
 obtain ⟨i0, hi, hz0, hz1, hz2⟩ := info_parts strinf;have HX := Lib.hid hx;have q22 := fun (w : World) (a : Option Addr) (n c n' c' : Nat) => Lib.run_eql_slice_nil (P := Tryz.prog) w 64 _ a n c n' c' Tryz.underlying64;clear hx;go_enter Tryz.func29, Tryz.ntmps29
 go_wp2_with (at_builtin; refine wpList_append_own_at _ rfl _ _ 64 rfl w.heap.size 9 i0 (.string ⟨#[]⟩) 1 16 Tryz.underlying64 hi hz0 hz1 hz2 rfl (by decide) _ _ _ rfl (World.ownsRow_made w #[] 0 (Nat.le_refl _) (Nat.zero_le _) rfl) ⟨g, 0, none⟩ n c (strsV n f) rfl ?qc1 ?qc2 ?qc3 ?qc4 ?qc5 ?qc6 ?_)
 case qc1 => rw [strsV_length]; omega
 case qc2 =>
  intro j u hj;have hjn : j < n := by
   have := (List.getElem?_eq_some_iff.1 hj).1;rwa [strsV_length] at this
  rw [strsV_get hjn] at hj;injection hj with hj;subst hj;rw [add_plain];exact (((Ext.refl w).alloc _).keeps (S := fun _ => False) |>.cell (p := ⟨g, j, none⟩) (World.block_lt_of_cell? w _ (HX.out j hjn).1) id).trans (HX.out j hjn).1
 case qc3 => intro u hu; obtain ⟨x, _, rfl⟩ := List.mem_map.1 hu; rfl
 case qc4 => unfold maxLen; omega
 case qc5 => omega
 case qc6 => simp
 intro v' w1 hown hgrow hnil hat;go_wp2_with fail;go_ret;have ho : w1.ownsRow w.heap.size 9 1 v' n (strsV n f) := by simpa using hown
 obtain ⟨g', c', rfl, _, hlt⟩ := ownsRow_some ho h0;refine ⟨⟨g', c', rfl, Sr.of_own ho, (ho.lt g' rfl).1, hlt⟩, ?_⟩;exact ((Below.refl _ w).alloc (Nat.le_refl _) _).grown hgrow (by simp) (by intro k hk; simp [Value.ownBlock] at hk; omega)
def repL (c q : Nat) (s : ByteArray) : List Value := List.replicate q (.string s) ++ List.replicate (c - q) (.string ⟨#[]⟩)
theorem repL_step (c q k : Nat) (s : ByteArray) (h : q + k ≤ c) : ((repL c q s).take q ++ List.replicate k (.string s) ++ (repL c q s).drop (q + k)) = repL c (q + k) s := by
 unfold repL;rw [List.take_left' (by simp), List.drop_append, List.drop_of_length_le (by simp), List.nil_append, List.length_replicate, List.drop_replicate, List.replicate_append_replicate];congr 2
 omega
theorem repL_len (c q : Nat) (s : ByteArray) (h : q ≤ c) : (repL c q s).length = c := by unfold repL; simp; omega
theorem repL_made (c : Nat) (s : ByteArray) : (madeCells #[Value.string ⟨#[]⟩] c).toList = repL c 0 s := by
 unfold repL;apply List.ext_getElem
 ·simp [madeCells]
 ·intro i h1 h2;simp [madeCells, Nat.mod_one]
set_option linter.unusedSimpArgs false in
set_option maxHeartbeats 4000000 in
theorem reps_any (x c : Nat) (s : ByteArray) (w : World) (hx : w.cell? ⟨x, 0, none⟩ = some (.string s)) (hc1 : 1 ≤ c) (hc : c ≤ 10000) :
  Calls Tryz.prog 27 #[.slice (some ⟨x, 0, none⟩) 1 1, .int .i64 (c : Int)] w fun e w' => (∃ g' c', e = .returned (.slice (some ⟨g', 0, none⟩) c c') ∧ Sr w' g' c (fun _ => s) ∧ w.heap.size ≤ g' ∧ g' < w'.heap.size) ∧ Ext w w' := by
 have hmk := run_make_row' (P := Tryz.prog) 64 9 (.string ⟨#[]⟩) 16 Tryz.underlying64 strinf rfl .i64 .i64 c (by omega) (by omega);have n2 : ¬ (c : Int) < 0 := by omega
 have wu : IntKind.u64.wrap (c : Int) = (c : Int) := by rw [IntKind.wrap_u64]; omega
 have wi : IntKind.i64.wrap (c : Int) = (c : Int) := by rw [IntKind.wrap_i64]; omega
 have n3 : ¬ (9223372036854775807 : Int) < (c : Int) := by omega
 have HX := Lib.hid hx;clear hx;go_enter Tryz.func27, Tryz.ntmps27
 go_wp2_with fail;refine (mul_one c (by omega) w).mono ?_;rintro e w2 ⟨rfl, rfl⟩;go_upto_region 7 with fail;clear hmk n2 wu wi n3;have hg : (w2.alloc (.cells (madeCells #[.string ⟨#[]⟩] c) 9)).heap[w2.heap.size]? = some (.cells (repL c 0 s).toArray 9 (0, 0)) := by
  rw [← repL_made, Array.toArray_toList];exact heap_alloc_new w2 _
 refine wp_world (fun wz => Hid (wz.heap[w2.heap.size]? = some (.cells (repL c 0 s).toArray 9 (0, 0))) ∧ Hid (Ext w2 wz) ∧ Hid (wz.cell? ⟨x, 0, none⟩ = some (.string s))) ⟨Lib.hid hg, Lib.hid (Ext.alloc (Ext.refl _) _), Lib.hid ((((Ext.refl w2).alloc _).keeps (S := fun _ => False) |>.cell (p := ⟨x, 0, none⟩) (World.block_lt_of_cell? w2 _ HX.out) id).trans HX.out)⟩ ?_;clear hg HX;obtain ⟨G, hG⟩ : ∃ G, w2.heap.size = G := ⟨_, rfl⟩;rw [hG];have HG := Lib.hid hG;clear hG;rintro w3 ⟨HW, HE, HC⟩;have hcp := run_copy_row (P := Tryz.prog) w3 64 64 3 9 G 0 c c ⟨x, 0, none⟩ 1 1 (repL c 0 s).toArray 9 (List.replicate 1 (.string s)) Tryz.underlying64 strSz HW.out (by simp [Nat.min_def]; omega) (by
  intro j v hj;have : j = 0 := by have := (List.getElem?_eq_some_iff.1 hj).1; simp at this; omega
  subst this;simp at hj;subst hj;rw [add_plain]; exact HC.out) (by rw [List.size_toArray, repL_len c 0 s (by omega)]; simp; omega) (by simp [Value.oneCell'])
 have hst := repL_step c 0 1 s (by omega);rw [Nat.zero_add] at hst;rw [List.length_replicate, Nat.zero_add] at hcp;rw [show (repL c 0 s).toArray.toList = repL c 0 s from rfl, hst] at hcp;have HS3 := Lib.hid (setRow_heap w3 G (repL c 0 s).toArray (repL c 1 s).toArray 9 (0, 0) HW.out);have HE3 := Lib.hid (below_setRow (B := G) (w0 := w2) (by rw [← HG.out]; exact HE.out) (Nat.le_refl G) (repL c 1 s).toArray);clear hst HW HE HC;go_wp2_with fail;clear hcp;refine wp_world (fun wz => Hid (wz.heap[G]? = some (.cells (repL c 1 s).toArray 9 (0, 0))) ∧ Hid (Below G w2 wz)) ⟨HS3, HE3⟩ ?_;clear HS3 HE3;rintro w4 ⟨HS, HE⟩;go_loopg [8] (c - 1) (fun k cc wr => ∃ q : Nat, 1 ≤ q ∧ q + k = c ∧ cc = .int .i64 (q : Int) ∧ Hid (wr.heap[G]? = some (.cells (repL c q s).toArray 9 (0, 0))) ∧ Hid (Below G w2 wr))
 case atStart => exact ⟨1, Nat.le_refl _, by omega, rfl, HS, HE⟩
 case round =>
  clear HS HE;obtain ⟨q, hq1, hqk, rfl, HS, HE⟩ := hrel;by_cases hlt : q < c
  ·obtain ⟨D, hD⟩ : ∃ D, c - q = D := ⟨_, rfl⟩;obtain ⟨k, hk⟩ : ∃ k, Nat.min q D = k := ⟨_, rfl⟩;have hk1 : 1 ≤ k ∧ q + k ≤ c ∧ k ≤ q ∧ k ≤ D := by have e : Nat.min q D = min q D := rfl; rw [e] at hk; omega
   have hcp := run_copy_row (P := Tryz.prog) wr.drew 64 64 3 9 G q D D ⟨G, 0, none⟩ q c (repL c q s).toArray 9 (List.replicate k (.string s)) Tryz.underlying64 strSz HS.out (by rw [List.length_replicate]; exact hk.symm) (by
    intro j v hj;have hj1 : j < k := by have := (List.getElem?_eq_some_iff.1 hj).1; simpa using this
    rw [List.getElem?_replicate, if_pos hj1] at hj;rw [add_plain];have h1 : wr.drew.cell? ⟨G, j, none⟩ = (repL c q s).toArray[j]? := by
     have h2 : wr.drew.heap[G]? = some (.cells (repL c q s).toArray 9 (0, 0)) := HS.out;rw [Lib.cell_of_heap h2]
    rw [h1, List.getElem?_toArray];unfold repL;rw [List.getElem?_append_left (by simp; omega), List.getElem?_replicate, if_pos (by omega)];exact hj) (by rw [List.size_toArray, repL_len c q s (by omega), List.length_replicate]; omega) (by intro v hv; rw [List.eq_of_mem_replicate hv]; rfl)
   rw [List.length_replicate, show (repL c q s).toArray.toList = repL c q s from rfl, repL_step c q k s hk1.2.1] at hcp;obtain ⟨Q2, hQ2⟩ : ∃ z, q + k = z := ⟨_, rfl⟩;rw [hQ2] at hcp;have HS2 := Lib.hid (setRow_heap wr G (repL c q s).toArray (repL c Q2 s).toArray 9 (0, 0) HS.out);have HE2 := Lib.hid (below_setRow (B := G) (w0 := w2) (Below.drew HE.out) (Nat.le_refl G) (repL c Q2 s).toArray);have hDI : (c : Int) - (q : Int) = (D : Int) := by omega
   have hql : q ≤ c := by omega
   have hqk2 : (q : Int) + (k : Int) = (Q2 : Int) := by omega
   have HK := Lib.hid (And.intro hk1 (And.intro hD hQ2));have wq_ : ∀ z, z = (Q2 : Int) → IntKind.i64.wrap z = z := by rintro _ rfl; rw [IntKind.wrap_i64]; omega
   clear hk HS HE hk1 hQ2;have mixed : Tryz.prog.follows .mixedOrders = true := by kernel_rfl
   go_wp2_with fail;go_region_o
   all_goals (go_wp2_with fail)
   all_goals (go_roundg (c - Q2))
   all_goals first
    | (have := HK.out; omega)
    | exact ⟨Q2, by have := HK.out; omega, by have := HK.out; omega, rfl, HS2, HE2⟩
  ·obtain rfl : q = c := by omega
   go_wp2_with fail;go_ret;refine ⟨⟨G, q, rfl, fun i hi => ?_, by rw [HG.out]; exact Nat.le_refl _, lt_of_block HS.out⟩, by have := HE.out; rw [← HG.out] at this; exact this⟩;have h2 := HS.out;refine ⟨?_, by simp [World.frozen?, h2]⟩;rw [Lib.cell_of_heap h2, List.getElem?_toArray];unfold repL;rw [List.getElem?_append_left (by simp; omega), List.getElem?_replicate, if_pos hi]
theorem wrinf : (Tryz.prog.info? 91).map (fun i => (i.zero, i.size, i.bytes)) = some (some (.agg #[.int .i64 0, .string ⟨#[]⟩]), 2, 24) := by kernel_rfl
/-- a row of writes that wait: in a block of its own, or none -/
def wtV : List (Nat × ByteArray) → List Value
 | [] => []
 | p :: l => .int .i64 (p.1 : Int) :: .string p.2 :: wtV l
theorem wtV_append : ∀ l l', wtV (l ++ l') = wtV l ++ wtV l'
 | [], l' => rfl
 | p :: l, l' => by simp only [List.cons_append, wtV, wtV_append l l']
theorem wtV_get0 : ∀ (l : List (Nat × ByteArray)) (i : Nat) (p : Nat × ByteArray), l[i]? = some p → (wtV l)[i * 2]? = some (.int .i64 (p.1 : Int)) ∧ (wtV l)[i * 2 + 1]? = some (.string p.2)
 | [], i, p, h => by simp at h
 | q :: l, 0, p, h => by simp at h; subst h; exact ⟨rfl, rfl⟩
 | q :: l, i + 1, p, h => by
  have := wtV_get0 l i p (by simpa using h);rw [show (i + 1) * 2 = i * 2 + 1 + 1 by omega];simpa [wtV] using this
end Go.Proofs.YtheidjagcafgnaaGreatDoor
namespace Go.Proofs.YtheidjagcafgnaaGreatDoor.Dk
structure DM where
  left : Int
  kept : Nat → ByteArray
  now : Nat → ByteArray
  ws : List (Nat × ByteArray)
def upS (f : Nat → ByteArray) (i : Nat) (s : ByteArray) : Nat → ByteArray := fun j => if j = i then s else f j
def dec (l : Int) : Int := if 0 < l then l - 1 else l
def pad (s : ByteArray) : ByteArray := s ++ zB (64 - s.size)
def new : DM := ⟨-1, fun _ => zB 64, fun _ => zB 64, []⟩
def wr (m : DM) (i : Nat) (s : ByteArray) : DM := ⟨dec m.left, m.kept, upS m.now i s, m.ws ++ [(i, s)]⟩
def fl (m : DM) : DM := ⟨dec m.left, m.now, m.now, []⟩
/-- what is kept behind k of the writes that waited -/
def crk (keep : Nat → Bool) (ws : List (Nat × ByteArray)) (f : Nat → ByteArray) : Nat → Nat → ByteArray
  | 0 => f
  | k + 1 => match ws[k]? with
    | some p => if keep k then upS (crk keep ws f k) p.1 p.2 else crk keep ws f k
    | none => crk keep ws f k
def cr (m : DM) (keep : Nat → Bool) : DM := ⟨-1, crk keep m.ws m.kept m.ws.length, crk keep m.ws m.kept m.ws.length, []⟩
structure Ok (n : Nat) (m : DM) (b : Nat) : Prop where
  left : -1 ≤ m.left ∧ m.left ≤ 9223372036854775807
  ws : ∀ p ∈ m.ws, p.1 < n
  len : m.ws.length ≤ b
theorem Ok.new (n : Nat) : Ok n new 0 := ⟨by unfold Dk.new; simp, (fun p hp => by cases hp), Nat.le_refl _⟩
theorem dec_ok {l : Int} (h : -1 ≤ l ∧ l ≤ 9223372036854775807) : -1 ≤ dec l ∧ dec l ≤ 9223372036854775807 := by unfold dec; split <;> omega
theorem Ok.wr {n b i : Nat} {m : DM} {s : ByteArray} (h : Ok n m b) (hi : i < n) : Ok n (wr m i s) (b + 1) := by
  refine ⟨dec_ok h.left, fun p hp => ?_, by unfold Dk.wr; simp; exact h.len⟩;unfold Dk.wr at hp;simp only [List.mem_append, List.mem_singleton] at hp;rcases hp with hp | rfl
  · exact h.ws p hp
  · exact hi
theorem Ok.fl {n b : Nat} {m : DM} (h : Ok n m b) : Ok n (fl m) b := ⟨dec_ok h.left, (fun p hp => by cases hp), Nat.zero_le _⟩
theorem Ok.cr {n b : Nat} {m : DM} (keep : Nat → Bool) (_h : Ok n m b) : Ok n (cr m keep) b := ⟨by unfold Dk.cr; simp, (fun p hp => by cases hp), Nat.zero_le _⟩
theorem Ok.fail {n b : Nat} {m : DM} {k : Int} (h : Ok n m b) (h0 : 0 ≤ k) (h1 : k ≤ 9223372036854775807) : Ok n { m with left := k } b := ⟨⟨by simp; omega, h1⟩, h.ws, h.len⟩
theorem Ok.up {n b c : Nat} {m : DM} (h : Ok n m b) (hc : b ≤ c) : Ok n m c := ⟨h.left, h.ws, Nat.le_trans h.len hc⟩
end Go.Proofs.YtheidjagcafgnaaGreatDoor.Dk
namespace Go.Proofs.YtheidjagcafgnaaGreatDoor
open Go.RowKit
/-- a disk: its block, two rows of sectors, a row of writes that wait; all in blocks of S -/
structure DX (w : World) (S : Nat → Prop) (d n : Nat) (tw : TypeId) (bx : Array Value) (gk gn : Nat) (vw : Value) (kept now : Nat → ByteArray) (ws : List (Nat × ByteArray)) : Prop where
 bk : Bk w d bx
 ks : Sr w gk n kept
 ns : Sr w gn n now
 wt : w.ownsRow 0 tw 2 vw ws.length (wtV ws)
 sd : S d
 sk : S gk
 sn : S gn
 sw : ∀ b, vw.ownBlock = some b → S b ∧ b ≠ d ∧ b ≠ gk ∧ b ≠ gn
 e1 : d ≠ gk
 e2 : d ≠ gn
 e3 : gk ≠ gn
 lk : gk < w.heap.size
 ln : gn < w.heap.size
def grow (S : Nat → Prop) (w w' : World) (k : Nat) : Prop := S k ∨ (w.heap.size ≤ k ∧ k < w'.heap.size)
theorem Sr.keeps {S : Nat → Prop} {w w' : World} {g n : Nat} {f : Nat → ByteArray} (h : Sr w g n f) (hk : Keeps S w w') (hS : ¬ S g) : Sr w' g n f := Cv.keeps h hk hS
theorem Sr.put {w : World} {g n : Nat} {f : Nat → ByteArray} (h : Sr w g n f) (i : Nat) (s : ByteArray) (hi : i < n) : Sr (w.setCell ⟨g, i, none⟩ (.string s)) g n (Dk.upS f i s) :=
 Cv.put h i (.string s) _ hi (fun j _ => by unfold Dk.upS; split <;> rfl)
section
variable {w w' : World} {S : Nat → Prop} {d n gk gn : Nat} {tw : TypeId} {bx : Array Value} {vw : Value} {kept now : Nat → ByteArray} {ws : List (Nat × ByteArray)}
theorem DX.keeps {F : Nat → Prop} (h : DX w S d n tw bx gk gn vw kept now ws) (hk : Keeps F w w') (hF : ∀ k, S k → ¬ F k) : DX w' S d n tw bx gk gn vw kept now ws :=
 ⟨h.bk.keeps hk (hF _ h.sd), h.ks.keeps hk (hF _ h.sk), h.ns.keeps hk (hF _ h.sn), ownsRow_kept h.wt hk (fun b hb => hF _ (h.sw b hb).1), h.sd, h.sk, h.sn, h.sw, h.e1, h.e2, h.e3, Nat.lt_of_lt_of_le h.lk hk.size, Nat.lt_of_lt_of_le h.ln hk.size⟩
theorem DX.ext (h : DX w S d n tw bx gk gn vw kept now ws) (hE : Ext w w') : DX w' S d n tw bx gk gn vw kept now ws := h.keeps (F := fun _ => False) hE.keeps (fun _ _ => id)
theorem DX.mono {S' : Nat → Prop} (h : DX w S d n tw bx gk gn vw kept now ws) (hS : ∀ k, S k → S' k) : DX w S' d n tw bx gk gn vw kept now ws :=
 ⟨h.bk, h.ks, h.ns, h.wt, hS _ h.sd, hS _ h.sk, hS _ h.sn, fun b hb => ⟨hS _ (h.sw b hb).1, (h.sw b hb).2⟩, h.e1, h.e2, h.e3, h.lk, h.ln⟩
theorem one_keeps (w : World) (b i : Nat) (u : Value) : Keeps (fun k => k = b) w (w.setCell ⟨b, i, none⟩ u) := (Keeps.refl (fun k => k = b) w).setCell (.inl rfl) _
/-- a cell of the disk's own block -/
theorem DX.box (h : DX w S d n tw bx gk gn vw kept now ws) (i : Nat) (u : Value) : DX (w.setCell ⟨d, i, none⟩ u) S d n tw (bx.setIfInBounds i u) gk gn vw kept now ws := by
 have K := one_keeps w d i u;exact ⟨h.bk.set_ i u, h.ks.keeps K (fun e => h.e1 e.symm), h.ns.keeps K (fun e => h.e2 e.symm), ownsRow_kept h.wt K (fun b hb e => (h.sw b hb).2.1 e), h.sd, h.sk, h.sn, h.sw, h.e1, h.e2, h.e3, Nat.lt_of_lt_of_le h.lk K.size, Nat.lt_of_lt_of_le h.ln K.size⟩
/-- a sector that is now -/
theorem DX.putN (h : DX w S d n tw bx gk gn vw kept now ws) (i : Nat) (s : ByteArray) (hi : i < n) : DX (w.setCell ⟨gn, i, none⟩ (.string s)) S d n tw bx gk gn vw kept (Dk.upS now i s) ws := by
 have K := one_keeps w gn i (.string s);exact ⟨h.bk.keeps K h.e2, h.ks.keeps K h.e3, h.ns.put i s hi, ownsRow_kept h.wt K (fun b hb e => (h.sw b hb).2.2.2 e), h.sd, h.sk, h.sn, h.sw, h.e1, h.e2, h.e3, Nat.lt_of_lt_of_le h.lk K.size, Nat.lt_of_lt_of_le h.ln K.size⟩
theorem DX.putK (h : DX w S d n tw bx gk gn vw kept now ws) (i : Nat) (s : ByteArray) (hi : i < n) : DX (w.setCell ⟨gk, i, none⟩ (.string s)) S d n tw bx gk gn vw (Dk.upS kept i s) now ws := by
 have K := one_keeps w gk i (.string s);exact ⟨h.bk.keeps K h.e1, h.ks.put i s hi, h.ns.keeps K (fun e => h.e3 e.symm), ownsRow_kept h.wt K (fun b hb e => (h.sw b hb).2.2.1 e), h.sd, h.sk, h.sn, h.sw, h.e1, h.e2, h.e3, Nat.lt_of_lt_of_le h.lk K.size, Nat.lt_of_lt_of_le h.ln K.size⟩
/-- another row of sectors that is kept -/
theorem DX.newK (h : DX w S d n tw bx gk gn vw kept now ws) {g : Nat} {f : Nat → ByteArray} (hg : Sr w g n f) (h1 : S g) (h2 : g ≠ d) (h3 : g ≠ gn) (h4 : ∀ b, vw.ownBlock = some b → b ≠ g) (h5 : g < w.heap.size) : DX w S d n tw bx g gn vw f now ws :=
 ⟨h.bk, hg, h.ns, h.wt, h.sd, h1, h.sn, fun b hb => ⟨(h.sw b hb).1, (h.sw b hb).2.1, h4 b hb, (h.sw b hb).2.2.2⟩, h2.symm, h.e2, h3, h5, h.ln⟩
theorem DX.newN (h : DX w S d n tw bx gk gn vw kept now ws) {g : Nat} {f : Nat → ByteArray} (hg : Sr w g n f) (h1 : S g) (h2 : g ≠ d) (h3 : g ≠ gk) (h4 : ∀ b, vw.ownBlock = some b → b ≠ g) (h5 : g < w.heap.size) : DX w S d n tw bx gk g vw kept f ws :=
 ⟨h.bk, h.ks, hg, h.wt, h.sd, h.sk, h1, fun b hb => ⟨(h.sw b hb).1, (h.sw b hb).2.1, (h.sw b hb).2.2.1, h4 b hb⟩, h.e1, h2.symm, h3.symm, h.lk, h5⟩
theorem DX.noW (h : DX w S d n tw bx gk gn vw kept now ws) : DX w S d n tw bx gk gn (.slice none 0 0) kept now [] :=
 ⟨h.bk, h.ks, h.ns, World.ownsRow_nil _ _ _ _, h.sd, h.sk, h.sn, (fun b hb => by cases hb), h.e1, h.e2, h.e3, h.lk, h.ln⟩
theorem DX.fresh (h : DX w S d n tw bx gk gn vw kept now ws) (hS : ∀ k, S k → k < w.heap.size) : ∀ b, vw.ownBlock = some b → b < w.heap.size := fun b hb => hS b (h.sw b hb).1
/-- one more write that waits: the row grew -/
theorem DX.push (h : DX w S d n tw bx gk gn vw kept now ws) {o : Obj} {vw' : Value} {p : Nat × ByteArray} (hS : ∀ k, S k → k < w.heap.size) (hg : (w.alloc o).grownBy w' vw.ownBlock)
  (hr : w'.ownsRow 0 tw 2 vw' (ws ++ [p]).length (wtV (ws ++ [p]))) (hat : vw'.ownBlock = vw.ownBlock ∨ vw'.ownBlock = some (w.alloc o).heap.size) : DX w' (grow S w w') d n tw bx gk gn vw' kept now (ws ++ [p]) ∧ Keeps S w w' := by
 have h1 := h.ext (Ext.alloc (Ext.refl w) o);have K := Keeps.grown hg;have sz : (w.alloc o).heap.size = w.heap.size + 1 := by simp
 have hk2 := K.size;refine ⟨⟨h1.bk.keeps K (fun e => (h.sw d e).2.1 rfl), h1.ks.keeps K (fun e => (h.sw gk e).2.2.1 rfl), h1.ns.keeps K (fun e => (h.sw gn e).2.2.2 rfl), hr, .inl h.sd, .inl h.sk, .inl h.sn, fun b hb => ?_, h.e1, h.e2, h.e3, by have := h.lk; omega, by have := h.ln; omega⟩, ?_⟩
 ·rcases hat with e | e
  ·rw [e] at hb;exact ⟨.inl (h.sw b hb).1, (h.sw b hb).2⟩
  ·have hb' := (hr.lt b hb).2;rw [e] at hb;injection hb with hb;have a1 := hS _ h.sd;have a2 := hS _ h.sk;have a3 := hS _ h.sn;exact ⟨.inr ⟨by omega, by omega⟩, by omega, by omega, by omega⟩
 ·exact ((Keeps.refl S w).alloc o).trans K (fun i _ e => (h.sw i e).1)
end
end Go.Proofs.YtheidjagcafgnaaGreatDoor
namespace Go.Proofs.YtheidjagcafgnaaGreatDoor
open Go.RowKit
theorem anyH_world {P : Program} {md : Region.Mode} {ops : Array Oper} {Q : Exit → Act → World → Prop} {S : World → Prop} {fuel : Nat} {listed : Array Bool} {a : Act} {W : World} (F : World → Prop) (h1 : F W) (h2 : ∀ wz, F wz → wpAnyH P md ops Q S fuel listed a wz) : wpAnyH P md ops Q S fuel listed a W := h2 W h1
end Go.Proofs.YtheidjagcafgnaaGreatDoor
namespace Go.Proofs.YtheidjagcafgnaaGreatDoor
open Go.RowKit
/-- three of the package's errors as they lie in memory -/
structure ErD (w : World) (E : Nat → Addr) : Prop where
 b : w.cell? ⟨0, 0, none⟩ = some (.iface 188 (.pointer (some (E 1))))
 s : w.cell? ⟨6, 0, none⟩ = some (.iface 188 (.pointer (some (E 2))))
 p : w.cell? ⟨2, 0, none⟩ = some (.iface 188 (.pointer (some (E 8))))
theorem ErD.keeps {S : Nat → Prop} {w w' : World} {E : Nat → Addr} (h : ErD w E) (hk : Keeps S w w') (h1 : ¬ S 0) (h2 : ¬ S 6) (h3 : ¬ S 2) : ErD w' E :=
 ⟨(hk.cell (p := ⟨_, 0, none⟩) (World.block_lt_of_cell? w _ h.b) h1).trans h.b, (hk.cell (p := ⟨_, 0, none⟩) (World.block_lt_of_cell? w _ h.s) h2).trans h.s, (hk.cell (p := ⟨_, 0, none⟩) (World.block_lt_of_cell? w _ h.p) h3).trans h.p⟩
theorem ErD.ext {w w' : World} {E : Nat → Addr} (h : ErD w E) (hE : Ext w w') : ErD w' E := h.keeps (S := fun _ => False) hE.keeps id id id
theorem spend_no (d : Nat) (w : World) (c0 : w.cell? ⟨d, 0, none⟩ = some (.int .i64 0)) :
  Calls Tryz.prog 54 #[.pointer (some ⟨d, 0, none⟩)] w fun e w' => e = .returned (.bool false) ∧ w' = w := by
 go_enter Tryz.func54, Tryz.ntmps54
 go_wp2_with fail;go_ret;exact ⟨rfl, rfl⟩
theorem spend_neg (d : Nat) (l : Int) (w : World) (c0 : w.cell? ⟨d, 0, none⟩ = some (.int .i64 l)) (hl : l < 0) :
  Calls Tryz.prog 54 #[.pointer (some ⟨d, 0, none⟩)] w fun e w' => e = .returned (.bool true) ∧ w' = w := by
 have t0 : (l == 0) = false := beq_eq_false_iff_ne.2 (by omega);have t1 : decide (0 < l) = false := decide_eq_false (by omega);clear hl;go_enter Tryz.func54, Tryz.ntmps54
 go_wp2_with fail;go_ret;exact ⟨rfl, rfl⟩
theorem spend_pos (d : Nat) (l : Int) (w : World) (c0 : w.cell? ⟨d, 0, none⟩ = some (.int .i64 l)) (f0 : w.frozen? ⟨d, 0, none⟩ = false) (hl : 0 < l ∧ l ≤ 9223372036854775807) :
  Calls Tryz.prog 54 #[.pointer (some ⟨d, 0, none⟩)] w fun e w' => e = .returned (.bool true) ∧ w' = w.setCell ⟨d, 0, none⟩ (.int .i64 (l - 1)) := by
 have t0 : (l == 0) = false := beq_eq_false_iff_ne.2 (by omega);have t1 : decide (0 < l) = true := decide_eq_true (by omega);have wl : ∀ z, z = l - 1 → IntKind.i64.wrap z = z := by rintro _ rfl; rw [IntKind.wrap_i64]; omega
 clear hl;go_enter Tryz.func54, Tryz.ntmps54
 go_wp2_with fail;go_ret;exact ⟨rfl, rfl⟩
theorem spend_dx {w : World} {S : Nat → Prop} {d n gk gn : Nat} {tw : TypeId} {l : Int} {vk vn vw : Value} {kept now : Nat → ByteArray} {ws : List (Nat × ByteArray)} (h : DX w S d n tw #[.int .i64 l, vk, vn, vw] gk gn vw kept now ws) (hl : l ≠ 0) (hb : -1 ≤ l ∧ l ≤ 9223372036854775807) :
  Calls Tryz.prog 54 #[.pointer (some ⟨d, 0, none⟩)] w fun e w' => e = .returned (.bool true) ∧ DX w' S d n tw #[.int .i64 (Dk.dec l), vk, vn, vw] gk gn vw kept now ws ∧ Keeps S w w' ∧ w'.heap.size = w.heap.size := by
 have c0 := h.bk.cell 0;have f0 := h.bk.frozen 0;rcases Int.lt_or_gt_of_ne hl with q | q
 ·refine (spend_neg d l w c0 q).mono ?_;rintro e w' ⟨rfl, rfl⟩;exact ⟨rfl, by rw [show Dk.dec l = l from if_neg (by omega)]; exact h, Keeps.refl _ _, rfl⟩
 ·refine (spend_pos d l w c0 f0 ⟨q, hb.2⟩).mono ?_;rintro e w' ⟨rfl, rfl⟩;exact ⟨rfl, by rw [show Dk.dec l = l - 1 from if_pos q]; exact h.box 0 _, (Keeps.refl S w).setCell (.inl h.sd) _, by simp⟩
theorem fail_ok (d : Nat) (k l : Int) (w : World) (c0 : w.cell? ⟨d, 0, none⟩ = some (.int .i64 l)) (f0 : w.frozen? ⟨d, 0, none⟩ = false) (hk : 0 ≤ k) :
  Calls Tryz.prog 25 #[.pointer (some ⟨d, 0, none⟩), .int .i64 k] w fun e w' => e = .returned .nilIface ∧ w' = w.setCell ⟨d, 0, none⟩ (.int .i64 k) := by
 have t : ¬ k < 0 := by omega
 go_enter Tryz.func25, Tryz.ntmps25
 go_wp2_with fail;go_ret;exact ⟨rfl, rfl⟩
/-- a disk -/
structure DS (w : World) (S : Nat → Prop) (d n : Nat) (m : Dk.DM) (b : Nat) : Prop where
 ex : ∃ gk ck gn cn vw, DX w S d n 91 #[.int .i64 m.left, .slice (some ⟨gk, 0, none⟩) n ck, .slice (some ⟨gn, 0, none⟩) n cn, vw] gk gn vw m.kept m.now m.ws
 ok : Dk.Ok n m b
 lt : ∀ k, S k → k < w.heap.size
 n1 : 1 ≤ n ∧ n ≤ 4000
theorem DS.keeps {w w' : World} {S F : Nat → Prop} {d n b : Nat} {m : Dk.DM} (h : DS w S d n m b) (hk : Keeps F w w') (hF : ∀ k, S k → ¬ F k) : DS w' S d n m b := by
 obtain ⟨gk, ck, gn, cn, vw, hx⟩ := h.ex;exact ⟨⟨gk, ck, gn, cn, vw, hx.keeps hk hF⟩, h.ok, fun k hs => Nat.lt_of_lt_of_le (h.lt k hs) hk.size, h.n1⟩
theorem DS.ext {w w' : World} {S : Nat → Prop} {d n b : Nat} {m : Dk.DM} (h : DS w S d n m b) (hE : Ext w w') : DS w' S d n m b := h.keeps (F := fun _ => False) hE.keeps (fun _ _ => id)
theorem DS.up {w : World} {S : Nat → Prop} {d n b c : Nat} {m : Dk.DM} (h : DS w S d n m b) (hc : b ≤ c) : DS w S d n m c := ⟨h.ex, h.ok.up hc, h.lt, h.n1⟩
/-- what an act leaves -/
def After (S : Nat → Prop) (w w' : World) (d n : Nat) (m : Dk.DM) (b : Nat) : Prop := DS w' (grow S w w') d n m b ∧ Keeps S w w'
theorem After.same {S : Nat → Prop} {w w' : World} {d n b : Nat} {m : Dk.DM} (h : DS w' S d n m b) (hk : Keeps S w w') : After S w w' d n m b := by
 obtain ⟨gk, ck, gn, cn, vw, hx⟩ := h.ex;exact ⟨⟨⟨gk, ck, gn, cn, vw, hx.mono fun _ => .inl⟩, h.ok, fun k hs => by rcases hs with q | q; exact h.lt k q; exact q.2, h.n1⟩, hk⟩
theorem dfail_any (d n b : Nat) (m : Dk.DM) (k : Int) (S : Nat → Prop) (w : World) (h : DS w S d n m b) (hk : 0 ≤ k) (h1 : k ≤ 9223372036854775807) :
  Calls Tryz.prog 25 #[.pointer (some ⟨d, 0, none⟩), .int .i64 k] w fun e w' => e = .returned .nilIface ∧ After S w w' d n { m with left := k } b := by
 obtain ⟨gk, ck, gn, cn, vw, hx⟩ := h.ex;refine (fail_ok d k m.left w (hx.bk.cell 0) (hx.bk.frozen 0) hk).mono ?_;rintro e w' ⟨rfl, rfl⟩;exact ⟨rfl, After.same ⟨⟨gk, ck, gn, cn, vw, hx.box 0 _⟩, h.ok.fail hk h1, fun k hs => by rw [World.size_setCell]; exact h.lt k hs, h.n1⟩ ((Keeps.refl S w).setCell (.inl hx.sd) _)⟩
theorem read_any (d n b : Nat) (m : Dk.DM) (i : Int) (S : Nat → Prop) (w : World) (E : Nat → Addr) (hE : ErD w E) (h : DS w S d n m b) :
  Calls Tryz.prog 62 #[.pointer (some ⟨d, 0, none⟩), .int .i64 i] w fun e w' => (((i < 0 ∨ (n : Int) ≤ i) ∧ e = .returned (.tuple #[.string ⟨#[]⟩, .iface 188 (.pointer (some (E 1)))])) ∨ (∃ k : Nat, i = k ∧ k < n ∧ e = .returned (.tuple #[.string (m.now k), .nilIface]))) ∧ Ext w w' := by
 obtain ⟨gk, ck, gn, cn, vw, hx⟩ := h.ex;have hn := h.n1;have c2 := hx.bk.cell 2;have HN := Lib.hid hx.ns;have HE := Lib.hid hE;have e1 := hE.b;clear hx h hE;by_cases h0 : i < 0
 ·have t0 : decide (i < 0) = true := decide_eq_true h0;go_enter Tryz.func62, Tryz.ntmps62
  go_wp2_with fail;go_region;all_goals
   (try go_wp2_with fail);go_ret2;exact ⟨.inl ⟨.inl h0, rfl⟩, (show Ext w _ from Below.drew (Ext.refl w))⟩
 ·obtain ⟨k, rfl⟩ : ∃ k : Nat, i = k := ⟨i.toNat, by omega⟩;by_cases h1 : k < n
  ·have hs := (HN.out k h1).1;have t1 : ¬ (n : Int) ≤ (k : Int) := by omega
   go_enter Tryz.func62, Tryz.ntmps62
   go_wp2_with fail;go_ret2;exact ⟨.inr ⟨k, rfl, h1, rfl⟩, Ext.refl _⟩
  ·have t1 : (n : Int) ≤ (k : Int) := by omega
   go_enter Tryz.func62, Tryz.ntmps62
   go_wp2_with fail;go_region;all_goals
    (try go_wp2_with fail);go_ret2;exact ⟨.inl ⟨.inr t1, rfl⟩, (show Ext w _ from Below.drew (Ext.refl w))⟩
end Go.Proofs.YtheidjagcafgnaaGreatDoor
namespace Go.Proofs.YtheidjagcafgnaaGreatDoor
open Go.RowKit
theorem write_power (d n b i : Nat) (m : Dk.DM) (s : ByteArray) (S : Nat → Prop) (w : World) (E : Nat → Addr) (hE : ErD w E) (h : DS w S d n m b) (hi : i < n) (hs : s.size ≤ 64) (h0 : m.left = 0) :
  Calls Tryz.prog 31 #[.pointer (some ⟨d, 0, none⟩), .int .i64 (i : Int), .string s] w fun e w' => e = .returned (.iface 188 (.pointer (some (E 8)))) ∧ w' = w := by
 obtain ⟨gk, ck, gn, cn, vw, hx⟩ := h.ex;have c2 := hx.bk.cell 2;have c0 := hx.bk.cell 0;rw [h0] at c0;have HC := Lib.hid (spend_no d w c0);have e1 := hE.p;clear hx h hE h0 c0;have t1 : ¬ (n : Int) ≤ (i : Int) := by omega
 have t2 : ¬ (64 : Int) < (s.size : Int) := by omega
 go_enter Tryz.func31, Tryz.ntmps31
 go_wp2_with fail;refine HC.out.mono ?_;rintro e w9 ⟨rfl, rfl⟩;go_wp2_with fail;go_ret;exact ⟨rfl, rfl⟩
set_option linter.unusedSimpArgs false in
set_option maxHeartbeats 4000000 in
theorem write_ok (d n b i : Nat) (m : Dk.DM) (s : ByteArray) (S : Nat → Prop) (w : World) (h : DS w S d n m b) (hi : i < n) (hs : s.size ≤ 64) (h0 : m.left ≠ 0) (hb : b ≤ 5000) :
  Calls Tryz.prog 31 #[.pointer (some ⟨d, 0, none⟩), .int .i64 (i : Int), .string s] w fun e w' => e = .returned .nilIface ∧ After S w w' d n (Dk.wr m i (Dk.pad s)) (b + 1) := by
 obtain ⟨gk, ck, gn, cn, vw, hx⟩ := h.ex;have HD := Lib.hid h;have HS := Lib.hid (spend_dx hx h0 h.ok.left);have c2 := hx.bk.cell 2;have hn := h.n1;clear hx h h0;have t1 : ¬ (n : Int) ≤ (i : Int) := by omega
 have t2 : ¬ (64 : Int) < (s.size : Int) := by omega
 obtain ⟨z, hz⟩ : ∃ z, 64 - s.size = z := ⟨_, rfl⟩;have d1 : (64 : Int) - (s.size : Int) = (z : Int) := by omega
 have hz64 : z ≤ 64 := by omega
 have wz_ : ∀ q, q = (z : Int) → IntKind.i64.wrap q = q := by rintro _ rfl; rw [IntKind.wrap_i64]; omega
 have HZ := Lib.hid hz;clear hz;obtain ⟨i0, hi0, hz0, hz1, hz2⟩ := info_parts wrinf;go_enter Tryz.func31, Tryz.ntmps31
 go_wp2_with fail;refine HS.out.mono ?_;rintro e w1 ⟨rfl, hx1, hk1, hs1⟩;have X1 := Lib.hid hx1;have K1 := Lib.hid (And.intro hk1 hs1);clear hx1 hk1 hs1 HS c2;go_wp2_with fail;refine (rep_any z hz64 w1).mono ?_;rintro e w2 ⟨rfl, hx2⟩;have X2 := Lib.hid (X1.out.ext hx2);have K2 := Lib.hid (And.intro (K1.out.1.trans (hx2.keeps (S := S)) (fun _ _ q => q)) (show w.heap.size ≤ w2.heap.size by rw [← K1.out.2]; exact hx2.size));clear hx2 X1 K1;obtain ⟨zz, hzz⟩ : ∃ q, zB z = q := ⟨_, rfl⟩;have hzs : zz.size = z := by rw [← hzz]; exact zB_size z
 have hsum : ¬ 9223372036854775807 < s.size + zz.size := by omega
 have HP : Hid (s ++ zz = Dk.pad s) := Lib.hid (by unfold Dk.pad; rw [HZ.out, hzz]);rw [hzz];clear hzs hzz;go_upto_region 8 with fail;rw [HP.out];clear wz_ d1 hsum t1 t2;have c2 := X2.out.bk.cell 2;obtain ⟨c3, f3⟩ := X2.out.ns i hi;have X3 := Lib.hid (X2.out.putN i (Dk.pad s) hi);have K3 := Lib.hid (And.intro (K2.out.1.setCell (p := ⟨gn, i, none⟩) (.inl X2.out.sn) (.string (Dk.pad s))) (show w.heap.size ≤ (w2.setCell ⟨gn, i, none⟩ (.string (Dk.pad s))).heap.size by rw [World.size_setCell]; exact K2.out.2));go_upto_region 9 with fail;clear c2 c3 f3 X2 K2;refine wp_world (fun wz => Hid (DX wz S d n 91 #[.int .i64 (Dk.dec m.left), .slice (some ⟨gk, 0, none⟩) n ck, .slice (some ⟨gn, 0, none⟩) n cn, vw] gk gn vw m.kept (Dk.upS m.now i (Dk.pad s)) m.ws) ∧ Hid (Keeps S w wz ∧ w.heap.size ≤ wz.heap.size)) ⟨X3, K3⟩ ?_;clear X3 K3;rintro w3 ⟨X3, K3⟩;have c3 := X3.out.bk.cell 3;have hwl := HD.out.ok.len;have HRow := Lib.hid X3.out.wt;obtain ⟨ln, hln⟩ : ∃ ln, m.ws.length = ln := ⟨_, rfl⟩;rw [hln] at HRow hwl;have HLN := Lib.hid hln;have hS3 : ∀ k, S k → k < w3.heap.size := fun k hk => Nat.lt_of_lt_of_le (HD.out.lt k hk) K3.out.2;have HS3 := Lib.hid hS3;clear hln hS3;go_wp2_with (at_builtin; refine wpList_append_own_at _ rfl _ _ 65 rfl 0 91 i0 _ 2 24 Tryz.underlying65 hi0 hz0 hz1 hz2 rfl (by decide) _ _ _ rfl (HRow.out.alloc _) ⟨w3.heap.size, 0, none⟩ 1 1 [.int .i64 (i : Int), .string (Dk.pad s)] rfl rfl ?c1 ?c2 ?c3 ?c4 ?c5 ?_)
 case c1 =>
  intro j u hu;rw [add_plain];exact (Bk.at (w := w3) rfl).cell j |>.trans (by simpa using hu)
 case c2 => intro u hu; simp at hu; rcases hu with hu | hu <;> (subst hu; rfl)
 case c3 => unfold maxLen; omega
 case c4 => omega
 case c5 => omega
 intro v5 w5 hown hgrow _ hat;have P5 := X3.out.push (p := (i, Dk.pad s)) HS3.out hgrow (by rw [wtV_append, List.length_append, HLN.out]; exact hown) (by simpa using hat);have X5 := Lib.hid P5.1;have K5 := Lib.hid (K3.out.1.trans P5.2 (fun _ _ q => q));have Z5 := Lib.hid (show w3.heap.size ≤ w5.heap.size from P5.2.size);obtain ⟨ao, n', cap, rfl⟩ : ∃ ao n' cap, v5 = .slice ao n' cap := by
  rcases ownsRow_slice hown with ⟨hv, _⟩ | ⟨g, cap, hv⟩
  ·exact ⟨_, _, _, hv⟩
  ·exact ⟨_, _, _, hv⟩
 clear hown hgrow hat P5 c3 HRow;have c5 := X5.out.bk.cell 3;have f5 := X5.out.bk.frozen 3;have X6 := Lib.hid (X5.out.box 3 (.slice ao n' cap));have K6 := Lib.hid (K5.out.setCell (p := ⟨d, 3, none⟩) (.inl X3.out.sd) (.slice ao n' cap));go_wp2_with fail;go_ret;refine ⟨rfl, ⟨⟨gk, ck, gn, cn, _, X6.out.mono fun k q => ?_⟩, HD.out.ok.wr hi, fun k q => ?_, hn⟩, K6.out⟩
 ·rcases q with q | q
  ·exact .inl q
  ·have := K3.out.2;exact .inr ⟨by omega, by rw [World.size_setCell]; exact q.2⟩
 ·rcases q with q | q
  ·have h1 := HS3.out k q;have h2 := Z5.out;rw [World.size_setCell];omega
  ·exact q.2
theorem flush_power (d n b : Nat) (m : Dk.DM) (S : Nat → Prop) (w : World) (E : Nat → Addr) (hE : ErD w E) (h : DS w S d n m b) (h0 : m.left = 0) :
  Calls Tryz.prog 32 #[.pointer (some ⟨d, 0, none⟩)] w fun e w' => e = .returned (.iface 188 (.pointer (some (E 8)))) ∧ w' = w := by
 obtain ⟨gk, ck, gn, cn, vw, hx⟩ := h.ex;have c0 := hx.bk.cell 0;rw [h0] at c0;have HC := Lib.hid (spend_no d w c0);have e1 := hE.p;clear hx h hE h0 c0;go_enter Tryz.func32, Tryz.ntmps32
 go_wp2_with fail;refine HC.out.mono ?_;rintro e w9 ⟨rfl, rfl⟩;go_wp2_with fail;go_ret;exact ⟨rfl, rfl⟩
/-- the facts behind a new row of sectors that is kept -/
theorem DX.cloneK {w w2 : World} {S : Nat → Prop} {d n gk gn g c : Nat} {tw : TypeId} {l : Int} {vk vn vw : Value} {kept now f : Nat → ByteArray} {ws : List (Nat × ByteArray)}
  (h : DX w S d n tw #[.int .i64 l, vk, vn, vw] gk gn vw kept now ws) (hS : ∀ k, S k → k < w.heap.size) (hE : Ext w w2) (hg : Sr w2 g n f) (h1 : w.heap.size ≤ g) (h2 : g < w2.heap.size) :
  DX (w2.setCell ⟨d, 1, none⟩ (.slice (some ⟨g, 0, none⟩) n c)) (grow S w w2) d n tw #[.int .i64 l, .slice (some ⟨g, 0, none⟩) n c, vn, vw] g gn vw f now ws ∧ Keeps S w (w2.setCell ⟨d, 1, none⟩ (.slice (some ⟨g, 0, none⟩) n c)) := by
 have hx := ((h.ext hE).mono (S' := grow S w w2) fun _ => .inl).newK hg (.inr ⟨h1, h2⟩) (fun e => by have := hS _ h.sd; omega) (fun e => by have := hS _ h.sn; omega) (fun b hb e => by have := hS _ (h.sw b hb).1; omega) h2;exact ⟨hx.box 1 _, (hE.keeps (S := S)).setCell (.inl h.sd) _⟩
theorem DX.cloneN {w w2 : World} {S : Nat → Prop} {d n gk gn g c : Nat} {tw : TypeId} {l : Int} {vk vn vw : Value} {kept now f : Nat → ByteArray} {ws : List (Nat × ByteArray)}
  (h : DX w S d n tw #[.int .i64 l, vk, vn, vw] gk gn vw kept now ws) (hS : ∀ k, S k → k < w.heap.size) (hE : Ext w w2) (hg : Sr w2 g n f) (h1 : w.heap.size ≤ g) (h2 : g < w2.heap.size) :
  DX (w2.setCell ⟨d, 2, none⟩ (.slice (some ⟨g, 0, none⟩) n c)) (grow S w w2) d n tw #[.int .i64 l, vk, .slice (some ⟨g, 0, none⟩) n c, vw] gk g vw kept f ws ∧ Keeps S w (w2.setCell ⟨d, 2, none⟩ (.slice (some ⟨g, 0, none⟩) n c)) := by
 have hx := ((h.ext hE).mono (S' := grow S w w2) fun _ => .inl).newN hg (.inr ⟨h1, h2⟩) (fun e => by have := hS _ h.sd; omega) (fun e => by have := hS _ h.sk; omega) (fun b hb e => by have := hS _ (h.sw b hb).1; omega) h2;exact ⟨hx.box 2 _, (hE.keeps (S := S)).setCell (.inl h.sd) _⟩
theorem flush_ok (d n b : Nat) (m : Dk.DM) (S : Nat → Prop) (w : World) (h : DS w S d n m b) (h0 : m.left ≠ 0) :
  Calls Tryz.prog 32 #[.pointer (some ⟨d, 0, none⟩)] w fun e w' => e = .returned .nilIface ∧ After S w w' d n (Dk.fl m) b := by
 obtain ⟨gk, ck, gn, cn, vw, hx⟩ := h.ex;have HD := Lib.hid h;have HS := Lib.hid (spend_dx hx h0 h.ok.left);have hn := h.n1;clear hx h h0;go_enter Tryz.func32, Tryz.ntmps32
 go_wp2_with fail;refine HS.out.mono ?_;rintro e w1 ⟨rfl, hx1, hk1, hs1⟩;have X1 := Lib.hid hx1;have K1 := Lib.hid (And.intro hk1 hs1);clear hx1 hk1 hs1 HS;have c2 := X1.out.bk.cell 2;go_wp2_with fail;refine (clone_strs gn n cn m.now w1 X1.out.ns (by omega) (by omega)).mono ?_;rintro e w2 ⟨⟨g', c', rfl, hg, hg1, hg2⟩, hE⟩;have P := X1.out.cloneK (c := c') (fun k hk => by rw [K1.out.2]; exact HD.out.lt k hk) hE hg hg1 hg2;have hle : w1.heap.size ≤ w2.heap.size := hE.size;have X3 := Lib.hid P.1;have K3 := Lib.hid (And.intro (K1.out.1.trans P.2 (fun _ _ q => q)) (And.intro hle (X1.out.ext hE).bk));have X4 := Lib.hid ((P.1.box 3 (.slice none 0 0)).noW);clear P hE hg hg1 hg2 c2 hle;have f1 := K3.out.2.2.frozen 1;have c1 := K3.out.2.2.cell 1;have c3 := K3.out.2.2.cell 3;have f3 := K3.out.2.2.frozen 3;go_wp2_with fail;go_ret;refine ⟨rfl, ⟨⟨g', c', gn, cn, _, X4.out.mono fun k q => ?_⟩, HD.out.ok.fl, fun k q => ?_, hn⟩, K3.out.1.setCell (p := ⟨d, 3, none⟩) (.inl X1.out.sd) _⟩
 ·rcases q with q | q
  ·exact .inl q
  ·have := K1.out.2;exact .inr ⟨by omega, by simp; omega⟩
 ·have h2 := K3.out.2.1;have h3 := K1.out.2;simp only [World.size_setCell] at q ⊢;rcases q with q | q
  ·have h1 := HD.out.lt k q;omega
  ·simp only [World.size_setCell] at q;exact q.2
end Go.Proofs.YtheidjagcafgnaaGreatDoor
namespace Go.Proofs.YtheidjagcafgnaaGreatDoor
open Go.RowKit
theorem own_form {w : World} {base : Nat} {e : TypeId} {size : Nat} {v : Value} {n : Nat} {xs : List Value} (h : w.ownsRow base e size v n xs) : ∃ x c, v = .slice x n c ∧ (∀ a, x = some a → ∃ g, a = ⟨g, 0, none⟩) ∧ (x = none → n = 0) := by
 rcases ownsRow_slice h with ⟨h1, h2⟩ | ⟨g, cap, h1⟩
 ·subst h2; exact ⟨none, 0, h1, (fun a ha => by cases ha), fun _ => rfl⟩
 ·exact ⟨_, cap, h1, (fun a ha => by injection ha with ha; exact ⟨g, ha.symm⟩), fun ha => by cases ha⟩
/-- a row of bools, wherever it lies, outside S -/
def KR (w : World) (S : Nat → Prop) (x : Option Addr) (n : Nat) (kb : Nat → Bool) : Prop := (x = none → n = 0) ∧ ∀ a, x = some a → ∀ j, j < n → w.cell? (a.add j) = some (.bool (kb j)) ∧ ¬ S (a.add j).block
theorem KR.keeps {w w' : World} {S : Nat → Prop} {x : Option Addr} {n : Nat} {kb : Nat → Bool} (h : KR w S x n kb) (hk : Keeps S w w') : KR w' S x n kb :=
 ⟨h.1, fun a ha j hj => by
  obtain ⟨h1, h2⟩ := h.2 a ha j hj;exact ⟨(hk.cell (World.block_lt_of_cell? w _ h1) h2).trans h1, h2⟩⟩
def kf (n : Nat) (kb : Nat → Bool) (j : Nat) : Bool := decide (j < n) && kb j
set_option linter.unusedSimpArgs false in
set_option maxHeartbeats 4000000 in
theorem crash_any (d n b : Nat) (m : Dk.DM) (S : Nat → Prop) (w : World) (h : DS w S d n m b) (hb : b ≤ 5000) (kx : Option Addr) (kn kc : Nat) (kb : Nat → Bool) (hk : KR w S kx kn kb) (_hkn : kn ≤ 100000) :
  Calls Tryz.prog 22 #[.pointer (some ⟨d, 0, none⟩), .slice kx kn kc] w fun e w' => e = .returned (.tuple #[]) ∧ After S w w' d n (Dk.cr m (kf kn kb)) b := by
 obtain ⟨gk, ck, gn, cn, vw, hx⟩ := h.ex;obtain ⟨vx, vc, rfl, hvx, hv0⟩ := own_form hx.wt;have HD := Lib.hid h;have HK := Lib.hid hk;have hn := h.n1;have hwl := h.ok.len;have c3 := hx.bk.cell 3;obtain ⟨ln, hln⟩ : ∃ ln, m.ws.length = ln := ⟨_, rfl⟩;have HL := Lib.hid hln;rw [hln] at hx hv0 hwl c3;have X0 := Lib.hid hx;have HV := Lib.hid (And.intro hvx hv0);clear hx h hk hvx hv0 hln;go_enter Tryz.func22, Tryz.ntmps22
 go_wp2_with fail;go_loopw [11] (fun cc wr => ∃ i : Nat, i ≤ ln ∧ cc = .int .i64 (i : Int) ∧ Hid (DX wr S d n 91 #[.int .i64 m.left, .slice (some ⟨gk, 0, none⟩) n ck, .slice (some ⟨gn, 0, none⟩) n cn, .slice vx ln vc] gk gn (.slice vx ln vc) (Dk.crk (kf kn kb) m.ws m.kept i) m.now m.ws) ∧ Hid (Keeps S w wr)) (fun cc _ => ln - (intOf cc).toNat)
 case atStart => exact ⟨0, by omega, rfl, X0, Lib.hid (Keeps.refl S w)⟩
 case round =>
  clear X0 c3;obtain ⟨i, hi, rfl, X, K⟩ := hrel;by_cases hlt : i < ln
  ·obtain ⟨⟨pi, ps⟩, hp⟩ : ∃ p, m.ws[i]? = some p := ⟨m.ws[i]'(by rw [HL.out]; exact hlt), List.getElem?_eq_getElem _⟩;have hpi : pi < n := HD.out.ok.ws (pi, ps) (List.mem_of_getElem? hp);have HP := Lib.hid hp;obtain ⟨ga, rfl⟩ : ∃ ga, vx = some ga := by
    cases vx with
    | none => have := HV.out.2 rfl; omega
    | some ga => exact ⟨ga, rfl⟩
   obtain ⟨gw, rfl⟩ := HV.out.1 ga rfl;have hrow := X.out.wt;rw [HL.out] at hrow;obtain ⟨q0, q1⟩ := wtV_get0 m.ws i (pi, ps) hp;have c0 := (hrow.cellAt (i * 2) (by omega)).trans q0;have c1 := (hrow.cellAt (i * 2 + 1) (by omega)).trans q1;clear q0 q1 hrow hp;have ht : (i : Int) < (ln : Int) := by omega
   have KX := Lib.hid (HK.out.keeps K.out);have K2 := Lib.hid ((K.out).alloc (.cells #[.int .i64 (pi : Int), .string ps] 91));have X2 := Lib.hid (X.out.ext (Ext.alloc (Ext.refl wr) (.cells #[.int .i64 (pi : Int), .string ps] 91)));have wi : ∀ z, z = (i : Int) + 1 → IntKind.i64.wrap z = z := by rintro _ rfl; rw [IntKind.wrap_i64]; omega
   by_cases hik : i < kn
   ·obtain ⟨ka, rfl⟩ : ∃ ka, kx = some ka := by
     cases kx with
     | none => have := KX.out.1 rfl; omega
     | some ka => exact ⟨ka, rfl⟩
    obtain ⟨k1, _⟩ := KX.out.2 ka rfl i hik;have k2 := (((Ext.refl wr).alloc (.cells #[.int .i64 (pi : Int), .string ps] 91)).keeps (S := fun _ => False) |>.cell (World.block_lt_of_cell? wr _ k1) id).trans k1;have hik' : (i : Int) < (kn : Int) := by omega
    cases hkb : kb i
    ·rw [hkb] at k1 k2;have HF : Hid (kf kn kb i = false) := Lib.hid (by unfold kf; rw [hkb]; simp);clear hkb;go_wp2_with fail;go_roundw
     case rel =>
      refine ⟨i + 1, by omega, by go_num, Lib.hid ?_, K2⟩;have := X2.out;simpa only [Dk.crk, HP.out, HF.out, if_false, Bool.false_eq_true] using this
     case measure => simp [intOf]; omega
    ·rw [hkb] at k1 k2;have HF : Hid (kf kn kb i = true) := Lib.hid (by unfold kf; rw [hkb]; simp [hik]);clear hkb;go_upto_region 4 with fail;refine wp_world (fun wz => Hid (DX wz S d n 91 #[.int .i64 m.left, .slice (some ⟨gk, 0, none⟩) n ck, .slice (some ⟨gn, 0, none⟩) n cn, .slice (some ⟨gw, 0, none⟩) ln vc] gk gn (.slice (some ⟨gw, 0, none⟩) ln vc) (Dk.crk (kf kn kb) m.ws m.kept i) m.now m.ws) ∧ Hid (Keeps S w wz) ∧ Hid (Bk wz wr.heap.size #[.int .i64 (pi : Int), .string ps])) ⟨X2, K2, Lib.hid (Bk.at rfl)⟩ ?_;obtain ⟨T, hT⟩ : ∃ T, wr.heap.size = T := ⟨_, rfl⟩;rw [hT];clear X2 K2 X K KX c0 c1 k1 k2 hT;rintro w2 ⟨X2, K2, B2⟩;have b0 := B2.out.cell 0;have b1 := B2.out.cell 1;have c1 := X2.out.bk.cell 1;obtain ⟨s0, f0⟩ := X2.out.ks pi hpi;have X3 := Lib.hid (X2.out.putK pi ps hpi);have K3 := Lib.hid (K2.out.setCell (p := ⟨gk, pi, none⟩) (.inl X2.out.sk) (.string ps));refine wp_region_still_tail 9 (by kernel_rfl) (by kernel_rfl) ?_;simp only [List.take_succ_cons, List.take_zero, List.drop_succ_cons, List.drop_zero];repeat still_step
     refine wpStill_nil ?_;change wpList _ _ _ _ _ w2.drew;go_wp2_with fail;go_roundw
     case rel =>
      refine ⟨i + 1, by omega, by go_num, Lib.hid ?_, Lib.hid (K3.out.drew)⟩;have := X3.out.ext (show Ext _ (w2.setCell ⟨gk, pi, none⟩ (.string ps)).drew from Below.drew (Ext.refl _));simpa only [Dk.crk, HP.out, HF.out, if_true] using this
     case measure => simp [intOf]; omega
   ·have hik' : ¬ (i : Int) < (kn : Int) := by omega
    have HF : Hid (kf kn kb i = false) := Lib.hid (by unfold kf; rw [decide_eq_false hik]; rfl);go_wp2_with fail;go_roundw
    case rel =>
     refine ⟨i + 1, by omega, by go_num, Lib.hid ?_, K2⟩;have := X2.out;simpa only [Dk.crk, HP.out, HF.out, if_false, Bool.false_eq_true] using this
    case measure => simp [intOf]; omega
  ·obtain rfl : i = ln := by omega
   have c1 := X.out.bk.cell 1;have hS : ∀ k, S k → k < wr.heap.size := fun k hk => Nat.lt_of_lt_of_le (HD.out.lt k hk) K.out.size;have HS := Lib.hid hS;clear hS;go_wp2_with fail;refine (clone_strs gk n ck _ wr X.out.ks (by omega) (by omega)).mono ?_;rintro e w2 ⟨⟨g', c', rfl, hg, hg1, hg2⟩, hE⟩;have P := X.out.cloneN (c := c') HS.out hE hg hg1 hg2;have hle : wr.heap.size ≤ w2.heap.size := hE.size;have K3 := Lib.hid (And.intro (K.out.trans P.2 (fun _ _ q => q)) (And.intro hle (X.out.ext hE).bk));have X4 := Lib.hid (((P.1.box 3 (.slice none 0 0)).noW).box 0 (.int .i64 (-1)));clear P hE hg hg1 hg2 hle c1;have f0 := K3.out.2.2.frozen 0;have c0 := K3.out.2.2.cell 0;have f2 := K3.out.2.2.frozen 2;have c2 := K3.out.2.2.cell 2;have c3 := K3.out.2.2.cell 3;have f3 := K3.out.2.2.frozen 3;go_wp2_with fail;go_end0;refine ⟨rfl, ⟨⟨gk, ck, g', c', .slice none 0 0, ?_⟩, HD.out.ok.cr _, fun k q => ?_, hn⟩, (K3.out.1.setCell (p := ⟨d, 3, none⟩) (.inl X.out.sd) _).setCell (p := ⟨d, 0, none⟩) (.inl X.out.sd) _⟩
   ·have hm := X4.out.mono (S' := grow S w (((w2.setCell ⟨d, 2, none⟩ (.slice (some ⟨g', 0, none⟩) n c')).setCell ⟨d, 3, none⟩ (.slice none 0 0)).setCell ⟨d, 0, none⟩ (.int .i64 (-1)))) (fun k q => by
     rcases q with q | q
     ·exact .inl q
     ·have := K.out.size;exact .inr ⟨by omega, by simp; omega⟩)
    unfold Dk.cr;rw [HL.out];exact hm
   ·have h2 := K3.out.2.1;have h3 := K.out.size;rcases q with q | q
    ·have h1 := HD.out.lt k q;simp only [World.size_setCell];omega
    ·exact q.2
end Go.Proofs.YtheidjagcafgnaaGreatDoor
namespace Go.Proofs.YtheidjagcafgnaaGreatDoor
open Go.RowKit
set_option maxHeartbeats 2000000 in
theorem new_ok (n : Nat) (w : World) (hn : 1 ≤ n ∧ n ≤ 4000) :
    Calls Tryz.prog 9 #[.int .i64 (n : Int)] w fun e w' => (∃ d, e = .returned (.tuple #[.pointer (some ⟨d, 0, none⟩), .nilIface]) ∧ DS w' (fun k => w.heap.size ≤ k ∧ k < w'.heap.size) d n Dk.new 0) ∧ Ext w w' := by
  have t0 : ¬ (n : Int) < 1 := by omega
  have t1 : ¬ (4000 : Int) < (n : Int) := by omega
  have z1 : (⟨#[0]⟩ : ByteArray) = zB 1 := rfl;go_enter Tryz.func9, Tryz.ntmps9
  go_wp2_with fail;refine (rep_any 64 (by omega) w).mono ?_;rintro e w1 ⟨rfl, hx1⟩;have X1 := Lib.hid hx1;clear hx1 t0 t1 z1;go_wp2_with fail;refine (reps_any w1.heap.size n (zB 64) (w1.alloc (.cells #[.string (zB 64)] 9)) (by rw [World.cell?_alloc_at _ _ _ _ rfl]; rfl) hn.1 (by omega)).mono ?_;rintro e w2 ⟨⟨g, c, rfl, hg, hg1, hg2⟩, hE⟩;have X2 := Lib.hid (X1.out.trans ((Ext.alloc (Ext.refl w1) (.cells #[.string (zB 64)] 9)).trans hE));have R2 := Lib.hid hg;have G2 := Lib.hid (And.intro (show w1.heap.size + 1 ≤ g by simpa using hg1) hg2);clear hE hg hg1 hg2;go_wp2_with fail;refine (clone_strs g n c _ w2 R2.out (by omega) (by omega)).mono ?_;rintro e w3 ⟨⟨g', c', rfl, hg, hg1, hg2⟩, hE⟩;have X3 := Lib.hid (X2.out.trans hE);have R3 := Lib.hid (And.intro (Cv.ext R2.out hE) hg);have G3 := Lib.hid (And.intro hg1 (And.intro hg2 hE.size));clear hE hg hg1 hg2 R2;go_wp2_with fail;go_ret2;have E_ := (Ext.refl w3).alloc (.cells #[.int .i64 (-1), .slice (some ⟨g, 0, none⟩) n c, .slice (some ⟨g', 0, none⟩) n c', .slice none 0 0] 67);have a1 := G2.out;have a2 := G3.out;have a3 := X1.out.size;have a4 := X3.out.size;refine ⟨⟨w3.heap.size, rfl, ⟨g, c, g', c', .slice none 0 0, ⟨Bk.at rfl, Cv.ext R3.out.1 E_, Cv.ext R3.out.2 E_, World.ownsRow_nil _ _ _ _, ⟨by omega, by simp⟩, ⟨by omega, by simp; omega⟩, ⟨by omega, by simp; omega⟩, (fun b hb => by cases hb), by omega, by omega, by omega, by simp; omega, by simp; omega⟩⟩, Dk.Ok.new n, fun k q => q.2, hn⟩, X3.out.trans E_⟩
theorem sectors_any (d n b : Nat) (m : Dk.DM) (S : Nat → Prop) (w : World) (h : DS w S d n m b) :
    Calls Tryz.prog 30 #[.pointer (some ⟨d, 0, none⟩)] w fun e w' => e = .returned (.int .i64 (n : Int)) ∧ w' = w := by
  obtain ⟨gk, ck, gn, cn, vw, hx⟩ := h.ex;have c2 := hx.bk.cell 2;clear hx h;go_enter Tryz.func30, Tryz.ntmps30
  go_wp2_with fail;go_ret;exact ⟨rfl, rfl⟩
end Go.Proofs.YtheidjagcafgnaaGreatDoor
namespace Go.Proofs.YtheidjagcafgnaaGreatDoor
open Go.RowKit
theorem Crc.crc_lt4 (l : List UInt8) : Crc.crc l < 4294967296 := by unfold Crc.crc Crc.more; exact Crc.flip_lt (Crc.run_lt (Crc.flip_lt (by decide)) l)
namespace Sto4
/-- bytes of a number -/
def nB (n : Nat) : ByteArray := ⟨(big4 n).toArray⟩
def magic : ByteArray := ⟨#[99, 97, 107, 101]⟩
def itm (s : ByteArray) : ByteArray := nB s.size ++ s
def hd0 (sy hf sz ck : Nat) : ByteArray := magic ++ nB sy ++ nB hf ++ nB sz ++ nB ck
def hd (sy hf sz ck : Nat) : ByteArray := hd0 sy hf sz ck ++ nB (Crc.crc (hd0 sy hf sz ck).data.toList)
theorem nB_size (n : Nat) : (nB n).size = 4 := by unfold nB big4; rfl
theorem magic_size : magic.size = 4 := rfl
theorem hd0_size (sy hf sz ck : Nat) : (hd0 sy hf sz ck).size = 20 := by unfold hd0; simp only [ByteArray.size_append, nB_size, magic_size]
theorem hd_size (sy hf sz ck : Nat) : (hd sy hf sz ck).size = 24 := by unfold hd; simp only [ByteArray.size_append, nB_size, hd0_size]
end Sto4
theorem stq {x : Int} (h : -9223372036854775808 ≤ x ∧ x ≤ 9223372036854775807) : (∀ z, z = x → IntKind.i64.wrap z = z) ∧ (∀ z, z = x → wrap64 z = z) := ⟨by rintro _ rfl; rw [IntKind.wrap_i64]; omega, by rintro _ rfl; unfold wrap64; omega⟩
theorem stu32 {x : Int} (h : 0 ≤ x ∧ x < 4294967296) : ∀ z, z = x → IntKind.u32.wrap z = z := by rintro _ rfl; rw [IntKind.wrap_u32]; omega
theorem half_any (d n b : Nat) (m : Dk.DM) (S : Nat → Prop) (w : World) (h : DS w S d n m b) (hn : 2 ≤ n) (hn2 : n ≤ 1000000) :
  Calls Tryz.prog 44 #[.pointer (some ⟨d, 0, none⟩)] w fun e w' => e = .returned (.int .i64 (((n - 2) / 2 : Nat) : Int)) ∧ w = w' := by
 obtain ⟨q, hq⟩ : ∃ q, n - 2 = q := ⟨_, rfl⟩;have e1 : (n : Int) - 2 = (q : Int) := by omega
 have e2 : (q : Int).tdiv 2 = ((q / 2 : Nat) : Int) := rfl;obtain ⟨r, hr⟩ : ∃ r, q / 2 = r := ⟨_, rfl⟩;rw [hr] at e2;rw [hq, hr];obtain ⟨wa, wb⟩ := stq (x := (q : Int)) ⟨by omega, by omega⟩;obtain ⟨wc, wd⟩ := stq (x := (r : Int)) ⟨by omega, by omega⟩;have HS := Lib.hid h;clear h hr hq;go_enter Tryz.func44, Tryz.ntmps44
 go_wp2_with fail;refine (sectors_any d n b m S w HS.out).mono ?_;rintro e _ ⟨rfl, rfl⟩;go_wp2_with fail;go_ret;exact ⟨rfl, rfl⟩
theorem item_any (s : ByteArray) (w : World) (hs : s.size ≤ 400000) :
  Calls Tryz.prog 65 #[.string s] w fun e w' => e = .returned (.string (Sto4.itm s)) ∧ Ext w w' := by
 have wu := stu32 (x := (s.size : Int)) ⟨by omega, by omega⟩;have HN := Lib.hid (number_any s.size (by omega) w);obtain ⟨N, hN⟩ : ∃ N : ByteArray, ⟨(big4 s.size).toArray⟩ = N := ⟨_, rfl⟩;have hz : N.size = 4 := by rw [← hN]; exact Sto4.nB_size _
 have hsz : ¬ 9223372036854775807 < N.size + s.size := by omega
 have HV : Hid (Sto4.itm s = N ++ s) := Lib.hid (by unfold Sto4.itm Sto4.nB; rw [hN]);rw [hN] at HN;clear hs hN hz;go_enter Tryz.func65, Tryz.ntmps65
 go_wp2_with fail;refine HN.out.mono ?_;rintro e w1 ⟨rfl, hX⟩;have HX := Lib.hid hX;clear hX;go_wp2_with fail;go_ret;exact ⟨by rw [HV.out]; rfl, HX.out⟩
theorem head_any (sy hf sz ck : Nat) (w : World) (h1 : sy < 4294967296) (h2 : hf < 4294967296) (h3 : sz < 4294967296) (h4 : ck < 4294967296) :
  Calls Tryz.prog 46 #[.int .u32 (sy : Int), .int .i64 (hf : Int), .int .i64 (sz : Int), .int .u32 (ck : Int)] w fun e w' => e = .returned (.string (Sto4.hd sy hf sz ck)) ∧ Ext w w' := by
 have wu2 := stu32 (x := (hf : Int)) ⟨by omega, by omega⟩;have wu3 := stu32 (x := (sz : Int)) ⟨by omega, by omega⟩;have HN := Lib.hid (fun (n : Nat) (hn : n < 4294967296) (w : World) => (show Calls Tryz.prog 66 #[.int .u32 (n : Int)] w fun e w' => e = .returned (.string (Sto4.nB n)) ∧ Ext w w' from number_any n hn w));obtain ⟨n1, hn1⟩ : ∃ q, Sto4.nB sy = q := ⟨_, rfl⟩;obtain ⟨n2, hn2⟩ : ∃ q, Sto4.nB hf = q := ⟨_, rfl⟩;obtain ⟨n3, hn3⟩ : ∃ q, Sto4.nB sz = q := ⟨_, rfl⟩;obtain ⟨n4, hn4⟩ : ∃ q, Sto4.nB ck = q := ⟨_, rfl⟩;have z1 : n1.size = 4 := by rw [← hn1]; exact Sto4.nB_size _
 have z2 : n2.size = 4 := by rw [← hn2]; exact Sto4.nB_size _
 have z3 : n3.size = 4 := by rw [← hn3]; exact Sto4.nB_size _
 have z4 : n4.size = 4 := by rw [← hn4]; exact Sto4.nB_size _
 obtain ⟨M, hM⟩ : ∃ q, Sto4.magic = q := ⟨_, rfl⟩;have zM : M.size = 4 := by rw [← hM]; rfl
 obtain ⟨T, hT⟩ : ∃ T, M ++ n1 ++ n2 ++ n3 ++ n4 = T := ⟨_, rfl⟩;have zT : T.size = 20 := by rw [← hT]; simp only [ByteArray.size_append]; omega
 have HT : Hid (Sto4.hd0 sy hf sz ck = T) := Lib.hid (by unfold Sto4.hd0; rw [hn1, hn2, hn3, hn4, hM]; exact hT);obtain ⟨c, hc⟩ : ∃ c, Crc.crc T.data.toList = c := ⟨_, rfl⟩;obtain ⟨n5, hn5⟩ : ∃ q, Sto4.nB c = q := ⟨_, rfl⟩;have z5 : n5.size = 4 := by rw [← hn5]; exact Sto4.nB_size _
 have HC : Hid (c < 4294967296) := Lib.hid (by rw [← hc]; exact Crc.crc_lt4 _);have HR : Hid (Sto4.hd sy hf sz ck = T ++ n5) := Lib.hid (by unfold Sto4.hd; rw [HT.out, hc, hn5]);have HCR := Lib.hid (fun w => crc_any T w (by unfold maxLen; omega));rw [hc] at HCR;have s1 : ¬ 9223372036854775807 < M.size + n1.size := by omega
 have s2 : ¬ 9223372036854775807 < M.size + n1.size + n2.size := by omega
 have s3 : ¬ 9223372036854775807 < M.size + n1.size + n2.size + n3.size := by omega
 have s4 : ¬ 9223372036854775807 < M.size + n1.size + n2.size + n3.size + n4.size := by omega
 have s5 : ¬ 9223372036854775807 < T.size + n5.size := by omega
 have HN1 := Lib.hid (HN.out sy h1);have HN2 := Lib.hid (HN.out hf h2);have HN3 := Lib.hid (HN.out sz h3);have HN4 := Lib.hid (HN.out ck h4);have HN5 := Lib.hid (HN.out c HC.out);rw [hn1] at HN1;rw [hn2] at HN2;rw [hn3] at HN3;rw [hn4] at HN4;rw [hn5] at HN5;have HTT := Lib.hid hT;clear hn1 hn2 hn3 hn4 hn5 z1 z2 z3 z4 z5 zM zT hc h1 h2 h3 h4 HN hT;unfold Sto4.magic at hM;go_enter Tryz.func46, Tryz.ntmps46
 go_wp2_with fail;refine (HN1.out _).mono ?_;rintro e w1 ⟨rfl, hX⟩;have X1 := Lib.hid hX;clear hX;go_wp2_with fail;refine (HN2.out _).mono ?_;rintro e w2 ⟨rfl, hX⟩;have X2 := Lib.hid (X1.out.trans hX);clear hX X1;go_wp2_with fail;refine (HN3.out _).mono ?_;rintro e w3 ⟨rfl, hX⟩;have X3 := Lib.hid (X2.out.trans hX);clear hX X2;go_wp2_with fail;refine (HN4.out _).mono ?_;rintro e w4 ⟨rfl, hX⟩;have X4 := Lib.hid (X3.out.trans hX);clear hX X3;go_wp2_with fail;rw [HTT.out];refine (HCR.out _).mono ?_;rintro e w5 ⟨rfl, hX⟩;have X5 := Lib.hid (X4.out.trans hX);clear hX X4;go_wp2_with fail;refine (HN5.out _).mono ?_;rintro e w6 ⟨rfl, hX⟩;have X6 := Lib.hid (X5.out.trans hX);clear hX X5;go_wp2_with fail;go_ret;exact ⟨by rw [HR.out]; rfl, X6.out⟩
/-- what take takes -/
def takeL (t : ByteArray) : Option (ByteArray × ByteArray) :=
 if t.size < 4 then none
 else if t.size - 4 < valN (t.data.toList.take 4) then none
 else some (t.extract 4 (4 + valN (t.data.toList.take 4)), t.extract (4 + valN (t.data.toList.take 4)) t.size)
def TakeP (w w' : World) (T : Nat) (r : Option (ByteArray × ByteArray)) (e : Ending) : Prop :=
 match r with
 | none => e = .returned (.tuple #[.string ⟨#[]⟩, .bool false]) ∧ w' = w
 | some (a, b) => e = .returned (.tuple #[.string a, .bool true]) ∧ w' = w.setCell ⟨T, 0, none⟩ (.string b)
set_option maxHeartbeats 4000000 in
theorem take_any (T : Nat) (t : ByteArray) (w : World) (c0 : w.cell? ⟨T, 0, none⟩ = some (.string t)) (f0 : w.frozen? ⟨T, 0, none⟩ = false) (hs : t.size ≤ 400000) :
  Calls Tryz.prog 64 #[.pointer (some ⟨T, 0, none⟩)] w fun e w' => TakeP w w' T (takeL t) e := by
 obtain ⟨r, hr⟩ : ∃ r, takeL t = r := ⟨_, rfl⟩;rw [hr];unfold takeL at hr;by_cases h4 : t.size < 4
 ·rw [if_pos h4] at hr;subst hr;have t1 : decide ((t.size : Int) < 4) = true := decide_eq_true (by omega);go_enter Tryz.func64, Tryz.ntmps64
  go_wp2_with fail;go_ret2;exact ⟨rfl, rfl⟩
 ·rw [if_neg h4] at hr;have t1 : decide ((t.size : Int) < 4) = false := decide_eq_false (by omega);have q4 : (4 : Int) ≤ (t.size : Int) := by omega
  have q4n : 4 ≤ t.size := by omega
  obtain ⟨D, hD⟩ : ∃ D : ByteArray, t.extract 0 4 = D := ⟨_, rfl⟩;obtain ⟨n, hn⟩ : ∃ n, valN (t.data.toList.take 4) = n := ⟨_, rfl⟩;have hv : valN D.data.toList = n := by rw [← hD, ByteArray.data_extract, Array.toList_extract, List.extract_eq_take_drop, List.drop_zero, Nat.sub_zero]; exact hn
  have HVA := Lib.hid (value_any D w (by rw [← hD, ByteArray.size_extract]; unfold maxLen; omega));rw [hv] at HVA;rw [hn] at hr;have hnl : n < 4294967296 := by rw [← hn]; exact valN_lt _
  obtain ⟨wa, wb⟩ := stq (x := (n : Int)) ⟨by omega, by omega⟩;obtain ⟨q, hq⟩ : ∃ q, t.size - 4 = q := ⟨_, rfl⟩;have e1 : (t.size : Int) - 4 = (q : Int) := by omega
  obtain ⟨wc, wd⟩ := stq (x := (q : Int)) ⟨by omega, by omega⟩;rw [hq] at hr;clear hn hv;by_cases hqn : q < n
  ·rw [if_pos hqn] at hr;subst hr;have t2 : decide ((q : Int) < (n : Int)) = true := decide_eq_true (by omega);clear hq;go_enter Tryz.func64, Tryz.ntmps64
   go_wp2_with fail;refine HVA.out.mono ?_;rintro e _ ⟨rfl, rfl⟩;go_wp2_with fail;go_ret2;exact ⟨rfl, rfl⟩
  ·rw [if_neg hqn] at hr;have t2 : decide ((q : Int) < (n : Int)) = false := decide_eq_false (by omega);obtain ⟨p, hp⟩ : ∃ p, 4 + n = p := ⟨_, rfl⟩;have e2 : (4 : Int) + (n : Int) = (p : Int) := by omega
   obtain ⟨we, wf⟩ := stq (x := (p : Int)) ⟨by omega, by omega⟩;have b1 : (4 : Int) ≤ (p : Int) := by omega
   have b2 : (p : Int) ≤ (t.size : Int) := by omega
   have b3 : 4 ≤ p := by omega
   have b4 : p ≤ t.size := by omega
   have b5 : (0 : Int) ≤ (p : Int) := by omega
   rw [hp] at hr;have HR := Lib.hid hr;clear hp hq hr;go_enter Tryz.func64, Tryz.ntmps64
   go_wp2_with fail;refine HVA.out.mono ?_;rintro e _ ⟨rfl, rfl⟩;go_wp2_with fail;go_ret2;rw [← HR.out];exact ⟨rfl, rfl⟩
end Go.Proofs.YtheidjagcafgnaaGreatDoor
namespace Go.Proofs.YtheidjagcafgnaaGreatDoor
open Go.RowKit
/-- a still region, step by step (the kernel alone reckons which operations are wanted) -/
@[irreducible] def wpQ (P : Program) (ops : Array Oper) (w : World) (Q : Act → Prop) (l : List Oper) (a : Act) : Prop := wpStill P ops w Q l a
theorem wpQ_eq {P : Program} {ops : Array Oper} {w : World} {Q : Act → Prop} {l : List Oper} {a : Act} : wpQ P ops w Q l a = wpStill P ops w Q l a := by unfold wpQ; rfl
theorem wpQ_nil {P : Program} {ops : Array Oper} {w : World} {Q : Act → Prop} {a : Act} (h : Q a) : wpQ P ops w Q [] a := by rw [wpQ_eq]; exact h
theorem wpQ_no {P : Program} {ops : Array Oper} {w : World} {Q : Act → Prop} {a : Act} {o : Oper} {rest : List Oper} (hw : Region.wanted o (yielded ops a.tmps) = false) (h : wpQ P ops w Q rest (a.put o.dst undef)) : wpQ P ops w Q (o :: rest) a := by
  rw [wpQ_eq] at h ⊢;unfold wpStill; rw [hw]; exact h
theorem wpQ_yes {P : Program} {ops : Array Oper} {w : World} {Q : Act → Prop} {a : Act} {o : Oper} {rest : List Oper} (hw : Region.wanted o (yielded ops a.tmps) = true)
    (h : ∀ K : Act → Prop, (∀ a, wpQ P ops w Q rest a → K a) → o.still P a w K) : wpQ P ops w Q (o :: rest) a := by
  rw [wpQ_eq];unfold wpStill; rw [hw]; exact h _ (fun _ q => by rw [wpQ_eq] at q; exact q)
theorem wp_regionQ {P : Program} {id : Nat} {Q : Exit → Act → World → Prop} {a : Act} {w : World} {l : List Oper} (hm : P.follows .mixedOrders = true) (hB : Region.lexB .any l.toArray = true)
    (h : wpQ P l.toArray w.drew (fun a' => Q .normal a' w.drew) l a) : (Code.region id l.toArray true).wp P Q a w :=
  wp_region_still_lit hm hB (by rw [wpQ_eq] at h; exact h)
theorem wp_region_tailQ {P : Program} {id : Nat} {Q : Exit → Act → World → Prop} {a : Act} {w : World} {l : List Oper} (n : Nat) (hm : P.follows .mixedOrders = true) (hB : Region.lexTailB .any l.toArray n = true)
    (h : wpQ P l.toArray w.drew (fun a' => wpList P l.toArray Q (l.drop n) a' w.drew) (l.take n) a) : (Code.region id l.toArray true).wp P Q a w :=
  wp_region_still_tail n hm hB (by rw [wpQ_eq] at h; exact h)
end Go.Proofs.YtheidjagcafgnaaGreatDoor
