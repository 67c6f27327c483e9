/-
  A disk in memory. No function of the program is named.
  The world of a region that draws its order, under a name. No function of the program is named.
  disk.Disk: spend, Fail, Read, Write, Flush.
  disk.Disk: Write, Flush.
  disk.Disk: Crash.
  disk.New, Sectors, Waiting; fresh.
  Acts on a disk: rows of acts; few; act.
-/
import Derived.Test.YtheidjagcafgnaaDoorDiskCopiesG1
import Derived.Deep.RegionHeld3
import Derived.RegionTactic
import Derived.BigQuiet
import Derived.StillTailTactics
import Derived.Deep.DeepCutAuto
import Derived.Deep.LoopGhost
namespace Go.Proofs.YtheidjagcafgnaaDoor
open Go.RowKit
set_option maxRecDepth 100000
/-- a disk: its block, two rows of sectors, a row of writes that wait; all in blocks of S -/
structure DX (w : World) (S : Nat → Prop) (d n : Nat) (tw : TypeId) (bx : Array Value) (gk gn : Nat) (vw : Value) (kept now : Nat → ByteArray) (ws : List (Nat × ByteArray)) : Prop where
  bk : Bk w d bx
  ks : Sr w gk n kept
  ns : Sr w gn n now
  wt : w.ownsRow 0 tw 2 vw ws.length (wtV ws)
  sd : S d
  sk : S gk
  sn : S gn
  sw : ∀ b, vw.ownBlock = some b → S b ∧ b ≠ d ∧ b ≠ gk ∧ b ≠ gn
  e1 : d ≠ gk
  e2 : d ≠ gn
  e3 : gk ≠ gn
  lk : gk < w.heap.size
  ln : gn < w.heap.size
def grow (S : Nat → Prop) (w w' : World) (k : Nat) : Prop := S k ∨ (w.heap.size ≤ k ∧ k < w'.heap.size)
theorem Sr.keeps {S : Nat → Prop} {w w' : World} {g n : Nat} {f : Nat → ByteArray} (h : Sr w g n f) (hk : Keeps S w w') (hS : ¬ S g) : Sr w' g n f := Cv.keeps h hk hS
theorem Sr.put {w : World} {g n : Nat} {f : Nat → ByteArray} (h : Sr w g n f) (i : Nat) (s : ByteArray) (hi : i < n) : Sr (w.setCell ⟨g, i, none⟩ (.string s)) g n (Dk.upS f i s) :=
  Cv.put h i (.string s) _ hi (fun j _ => by unfold Dk.upS; split <;> rfl)
section
variable {w w' : World} {S : Nat → Prop} {d n gk gn : Nat} {tw : TypeId} {bx : Array Value} {vw : Value} {kept now : Nat → ByteArray} {ws : List (Nat × ByteArray)}
theorem DX.keeps {F : Nat → Prop} (h : DX w S d n tw bx gk gn vw kept now ws) (hk : Keeps F w w') (hF : ∀ k, S k → ¬ F k) : DX w' S d n tw bx gk gn vw kept now ws :=
  ⟨h.bk.keeps hk (hF _ h.sd), h.ks.keeps hk (hF _ h.sk), h.ns.keeps hk (hF _ h.sn), ownsRow_kept h.wt hk (fun b hb => hF _ (h.sw b hb).1), h.sd, h.sk, h.sn, h.sw, h.e1, h.e2, h.e3, Nat.lt_of_lt_of_le h.lk hk.size, Nat.lt_of_lt_of_le h.ln hk.size⟩
theorem DX.ext (h : DX w S d n tw bx gk gn vw kept now ws) (hE : Ext w w') : DX w' S d n tw bx gk gn vw kept now ws := h.keeps (F := fun _ => False) hE.keeps (fun _ _ => id)
theorem DX.mono {S' : Nat → Prop} (h : DX w S d n tw bx gk gn vw kept now ws) (hS : ∀ k, S k → S' k) : DX w S' d n tw bx gk gn vw kept now ws :=
  ⟨h.bk, h.ks, h.ns, h.wt, hS _ h.sd, hS _ h.sk, hS _ h.sn, fun b hb => ⟨hS _ (h.sw b hb).1, (h.sw b hb).2⟩, h.e1, h.e2, h.e3, h.lk, h.ln⟩
theorem one_keeps (w : World) (b i : Nat) (u : Value) : Keeps (fun k => k = b) w (w.setCell ⟨b, i, none⟩ u) := (Keeps.refl (fun k => k = b) w).setCell (.inl rfl) _
/-- a cell of the disk's own block -/
theorem DX.box (h : DX w S d n tw bx gk gn vw kept now ws) (i : Nat) (u : Value) : DX (w.setCell ⟨d, i, none⟩ u) S d n tw (bx.setIfInBounds i u) gk gn vw kept now ws := by
  have K := one_keeps w d i u
  exact ⟨h.bk.set_ i u, h.ks.keeps K (fun e => h.e1 e.symm), h.ns.keeps K (fun e => h.e2 e.symm), ownsRow_kept h.wt K (fun b hb e => (h.sw b hb).2.1 e), h.sd, h.sk, h.sn, h.sw, h.e1, h.e2, h.e3, Nat.lt_of_lt_of_le h.lk K.size, Nat.lt_of_lt_of_le h.ln K.size⟩
/-- a sector that is now -/
theorem DX.putN (h : DX w S d n tw bx gk gn vw kept now ws) (i : Nat) (s : ByteArray) (hi : i < n) : DX (w.setCell ⟨gn, i, none⟩ (.string s)) S d n tw bx gk gn vw kept (Dk.upS now i s) ws := by
  have K := one_keeps w gn i (.string s)
  exact ⟨h.bk.keeps K h.e2, h.ks.keeps K h.e3, h.ns.put i s hi, ownsRow_kept h.wt K (fun b hb e => (h.sw b hb).2.2.2 e), h.sd, h.sk, h.sn, h.sw, h.e1, h.e2, h.e3, Nat.lt_of_lt_of_le h.lk K.size, Nat.lt_of_lt_of_le h.ln K.size⟩
theorem DX.putK (h : DX w S d n tw bx gk gn vw kept now ws) (i : Nat) (s : ByteArray) (hi : i < n) : DX (w.setCell ⟨gk, i, none⟩ (.string s)) S d n tw bx gk gn vw (Dk.upS kept i s) now ws := by
  have K := one_keeps w gk i (.string s)
  exact ⟨h.bk.keeps K h.e1, h.ks.put i s hi, h.ns.keeps K (fun e => h.e3 e.symm), ownsRow_kept h.wt K (fun b hb e => (h.sw b hb).2.2.1 e), h.sd, h.sk, h.sn, h.sw, h.e1, h.e2, h.e3, Nat.lt_of_lt_of_le h.lk K.size, Nat.lt_of_lt_of_le h.ln K.size⟩
/-- another row of sectors that is kept -/
theorem DX.newK (h : DX w S d n tw bx gk gn vw kept now ws) {g : Nat} {f : Nat → ByteArray} (hg : Sr w g n f) (h1 : S g) (h2 : g ≠ d) (h3 : g ≠ gn) (h4 : ∀ b, vw.ownBlock = some b → b ≠ g) (h5 : g < w.heap.size) : DX w S d n tw bx g gn vw f now ws :=
  ⟨h.bk, hg, h.ns, h.wt, h.sd, h1, h.sn, fun b hb => ⟨(h.sw b hb).1, (h.sw b hb).2.1, h4 b hb, (h.sw b hb).2.2.2⟩, h2.symm, h.e2, h3, h5, h.ln⟩
theorem DX.newN (h : DX w S d n tw bx gk gn vw kept now ws) {g : Nat} {f : Nat → ByteArray} (hg : Sr w g n f) (h1 : S g) (h2 : g ≠ d) (h3 : g ≠ gk) (h4 : ∀ b, vw.ownBlock = some b → b ≠ g) (h5 : g < w.heap.size) : DX w S d n tw bx gk g vw kept f ws :=
  ⟨h.bk, h.ks, hg, h.wt, h.sd, h.sk, h1, fun b hb => ⟨(h.sw b hb).1, (h.sw b hb).2.1, (h.sw b hb).2.2.1, h4 b hb⟩, h.e1, h2.symm, h3.symm, h.lk, h5⟩
theorem DX.noW (h : DX w S d n tw bx gk gn vw kept now ws) : DX w S d n tw bx gk gn (.slice none 0 0) kept now [] :=
  ⟨h.bk, h.ks, h.ns, World.ownsRow_nil _ _ _ _, h.sd, h.sk, h.sn, (fun b hb => by cases hb), h.e1, h.e2, h.e3, h.lk, h.ln⟩
theorem DX.fresh (h : DX w S d n tw bx gk gn vw kept now ws) (hS : ∀ k, S k → k < w.heap.size) : ∀ b, vw.ownBlock = some b → b < w.heap.size := fun b hb => hS b (h.sw b hb).1
/-- one more write that waits: the row grew -/
theorem DX.push (h : DX w S d n tw bx gk gn vw kept now ws) {o : Obj} {vw' : Value} {p : Nat × ByteArray} (hS : ∀ k, S k → k < w.heap.size) (hg : (w.alloc o).grownBy w' vw.ownBlock)
    (hr : w'.ownsRow 0 tw 2 vw' (ws ++ [p]).length (wtV (ws ++ [p]))) (hat : vw'.ownBlock = vw.ownBlock ∨ vw'.ownBlock = some (w.alloc o).heap.size) : DX w' (grow S w w') d n tw bx gk gn vw' kept now (ws ++ [p]) ∧ Keeps S w w' := by
  have h1 := h.ext (Ext.alloc (Ext.refl w) o)
  have K := Keeps.grown hg
  have sz : (w.alloc o).heap.size = w.heap.size + 1 := by simp
  have hk2 := K.size
  refine ⟨⟨h1.bk.keeps K (fun e => (h.sw d e).2.1 rfl), h1.ks.keeps K (fun e => (h.sw gk e).2.2.1 rfl), h1.ns.keeps K (fun e => (h.sw gn e).2.2.2 rfl), hr, .inl h.sd, .inl h.sk, .inl h.sn, fun b hb => ?_, h.e1, h.e2, h.e3, by have := h.lk; omega, by have := h.ln; omega⟩, ?_⟩
  · rcases hat with e | e
    · rw [e] at hb
      exact ⟨.inl (h.sw b hb).1, (h.sw b hb).2⟩
    · have hb' := (hr.lt b hb).2
      rw [e] at hb
      injection hb with hb
      have a1 := hS _ h.sd
      have a2 := hS _ h.sk
      have a3 := hS _ h.sn
      exact ⟨.inr ⟨by omega, by omega⟩, by omega, by omega, by omega⟩
  · exact ((Keeps.refl S w).alloc o).trans K (fun i _ e => (h.sw i e).1)
end
end Go.Proofs.YtheidjagcafgnaaDoor
namespace Go.Proofs.YtheidjagcafgnaaDoor
open Go.RowKit
theorem anyH_world {P : Program} {md : Region.Mode} {ops : Array Oper} {Q : Exit → Act → World → Prop} {S : World → Prop} {fuel : Nat} {listed : Array Bool} {a : Act} {W : World} (F : World → Prop) (h1 : F W) (h2 : ∀ wz, F wz → wpAnyH P md ops Q S fuel listed a wz) : wpAnyH P md ops Q S fuel listed a W := h2 W h1
end Go.Proofs.YtheidjagcafgnaaDoor
namespace Go.Proofs.YtheidjagcafgnaaDoor
open Go.RowKit
set_option maxRecDepth 100000
/-- three of the package's errors as they lie in memory -/
structure ErD (w : World) (E : Nat → Addr) : Prop where
  b : w.cell? ⟨0, 0, none⟩ = some (.iface 128 (.pointer (some (E 1))))
  s : w.cell? ⟨2, 0, none⟩ = some (.iface 128 (.pointer (some (E 2))))
  p : w.cell? ⟨1, 0, none⟩ = some (.iface 128 (.pointer (some (E 8))))
theorem ErD.keeps {S : Nat → Prop} {w w' : World} {E : Nat → Addr} (h : ErD w E) (hk : Keeps S w w') (h1 : ¬ S 0) (h2 : ¬ S 2) (h3 : ¬ S 1) : ErD w' E :=
  ⟨(hk.cell (p := ⟨_, 0, none⟩) (World.block_lt_of_cell? w _ h.b) h1).trans h.b, (hk.cell (p := ⟨_, 0, none⟩) (World.block_lt_of_cell? w _ h.s) h2).trans h.s, (hk.cell (p := ⟨_, 0, none⟩) (World.block_lt_of_cell? w _ h.p) h3).trans h.p⟩
theorem ErD.ext {w w' : World} {E : Nat → Addr} (h : ErD w E) (hE : Ext w w') : ErD w' E := h.keeps (S := fun _ => False) hE.keeps id id id
theorem spend_no (d : Nat) (w : World) (c0 : w.cell? ⟨d, 0, none⟩ = some (.int .i64 0)) :
    Calls Tryd.prog 26 #[.pointer (some ⟨d, 0, none⟩)] w fun e w' => e = .returned (.bool false) ∧ w' = w := by
  go_enter Tryd.func26, Tryd.ntmps26
  go_wp2_with fail
  go_ret
  exact ⟨rfl, rfl⟩
theorem spend_neg (d : Nat) (l : Int) (w : World) (c0 : w.cell? ⟨d, 0, none⟩ = some (.int .i64 l)) (hl : l < 0) :
    Calls Tryd.prog 26 #[.pointer (some ⟨d, 0, none⟩)] w fun e w' => e = .returned (.bool true) ∧ w' = w := by
  have t0 : (l == 0) = false := beq_eq_false_iff_ne.2 (by omega)
  have t1 : decide (0 < l) = false := decide_eq_false (by omega)
  clear hl
  go_enter Tryd.func26, Tryd.ntmps26
  go_wp2_with fail
  go_ret
  exact ⟨rfl, rfl⟩
theorem spend_pos (d : Nat) (l : Int) (w : World) (c0 : w.cell? ⟨d, 0, none⟩ = some (.int .i64 l)) (f0 : w.frozen? ⟨d, 0, none⟩ = false) (hl : 0 < l ∧ l ≤ 9223372036854775807) :
    Calls Tryd.prog 26 #[.pointer (some ⟨d, 0, none⟩)] w fun e w' => e = .returned (.bool true) ∧ w' = w.setCell ⟨d, 0, none⟩ (.int .i64 (l - 1)) := by
  have t0 : (l == 0) = false := beq_eq_false_iff_ne.2 (by omega)
  have t1 : decide (0 < l) = true := decide_eq_true (by omega)
  have wl : ∀ z, z = l - 1 → IntKind.i64.wrap z = z := by rintro _ rfl; rw [IntKind.wrap_i64]; omega
  clear hl
  go_enter Tryd.func26, Tryd.ntmps26
  go_wp2_with fail
  go_ret
  exact ⟨rfl, rfl⟩
theorem spend_dx {w : World} {S : Nat → Prop} {d n gk gn : Nat} {tw : TypeId} {l : Int} {vk vn vw : Value} {kept now : Nat → ByteArray} {ws : List (Nat × ByteArray)} (h : DX w S d n tw #[.int .i64 l, vk, vn, vw] gk gn vw kept now ws) (hl : l ≠ 0) (hb : -1 ≤ l ∧ l ≤ 9223372036854775807) :
    Calls Tryd.prog 26 #[.pointer (some ⟨d, 0, none⟩)] w fun e w' => e = .returned (.bool true) ∧ DX w' S d n tw #[.int .i64 (Dk.dec l), vk, vn, vw] gk gn vw kept now ws ∧ Keeps S w w' ∧ w'.heap.size = w.heap.size := by
  have c0 := h.bk.cell 0
  have f0 := h.bk.frozen 0
  rcases Int.lt_or_gt_of_ne hl with q | q
  · refine (spend_neg d l w c0 q).mono ?_
    rintro e w' ⟨rfl, rfl⟩
    exact ⟨rfl, by rw [show Dk.dec l = l from if_neg (by omega)]; exact h, Keeps.refl _ _, rfl⟩
  · refine (spend_pos d l w c0 f0 ⟨q, hb.2⟩).mono ?_
    rintro e w' ⟨rfl, rfl⟩
    exact ⟨rfl, by rw [show Dk.dec l = l - 1 from if_pos q]; exact h.box 0 _, (Keeps.refl S w).setCell (.inl h.sd) _, by simp⟩
theorem fail_bad (d : Nat) (k : Int) (w : World) (E : Nat → Addr) (hE : ErD w E) (hk : k < 0) :
    Calls Tryd.prog 25 #[.pointer (some ⟨d, 0, none⟩), .int .i64 k] w fun e w' => e = .returned (.iface 128 (.pointer (some (E 1)))) ∧ w' = w := by
  have c0 := hE.b
  clear hE
  go_enter Tryd.func25, Tryd.ntmps25
  go_wp2_with fail
  go_ret
  exact ⟨rfl, rfl⟩
theorem fail_ok (d : Nat) (k l : Int) (w : World) (c0 : w.cell? ⟨d, 0, none⟩ = some (.int .i64 l)) (f0 : w.frozen? ⟨d, 0, none⟩ = false) (hk : 0 ≤ k) :
    Calls Tryd.prog 25 #[.pointer (some ⟨d, 0, none⟩), .int .i64 k] w fun e w' => e = .returned .nilIface ∧ w' = w.setCell ⟨d, 0, none⟩ (.int .i64 k) := by
  have t : ¬ k < 0 := by omega
  go_enter Tryd.func25, Tryd.ntmps25
  go_wp2_with fail
  go_ret
  exact ⟨rfl, rfl⟩
/-- a disk -/
structure DS (w : World) (S : Nat → Prop) (d n : Nat) (m : Dk.DM) (b : Nat) : Prop where
  ex : ∃ gk ck gn cn vw, DX w S d n 64 #[.int .i64 m.left, .slice (some ⟨gk, 0, none⟩) n ck, .slice (some ⟨gn, 0, none⟩) n cn, vw] gk gn vw m.kept m.now m.ws
  ok : Dk.Ok n m b
  lt : ∀ k, S k → k < w.heap.size
  n1 : 1 ≤ n ∧ n ≤ 4000
theorem DS.keeps {w w' : World} {S F : Nat → Prop} {d n b : Nat} {m : Dk.DM} (h : DS w S d n m b) (hk : Keeps F w w') (hF : ∀ k, S k → ¬ F k) : DS w' S d n m b := by
  obtain ⟨gk, ck, gn, cn, vw, hx⟩ := h.ex
  exact ⟨⟨gk, ck, gn, cn, vw, hx.keeps hk hF⟩, h.ok, fun k hs => Nat.lt_of_lt_of_le (h.lt k hs) hk.size, h.n1⟩
theorem DS.ext {w w' : World} {S : Nat → Prop} {d n b : Nat} {m : Dk.DM} (h : DS w S d n m b) (hE : Ext w w') : DS w' S d n m b := h.keeps (F := fun _ => False) hE.keeps (fun _ _ => id)
theorem DS.up {w : World} {S : Nat → Prop} {d n b c : Nat} {m : Dk.DM} (h : DS w S d n m b) (hc : b ≤ c) : DS w S d n m c := ⟨h.ex, h.ok.up hc, h.lt, h.n1⟩
/-- what an act leaves -/
def After (S : Nat → Prop) (w w' : World) (d n : Nat) (m : Dk.DM) (b : Nat) : Prop := DS w' (grow S w w') d n m b ∧ Keeps S w w'
theorem After.same {S : Nat → Prop} {w w' : World} {d n b : Nat} {m : Dk.DM} (h : DS w' S d n m b) (hk : Keeps S w w') : After S w w' d n m b := by
  obtain ⟨gk, ck, gn, cn, vw, hx⟩ := h.ex
  exact ⟨⟨⟨gk, ck, gn, cn, vw, hx.mono fun _ => .inl⟩, h.ok, fun k hs => by rcases hs with q | q; exact h.lt k q; exact q.2, h.n1⟩, hk⟩
theorem dfail_any (d n b : Nat) (m : Dk.DM) (k : Int) (S : Nat → Prop) (w : World) (h : DS w S d n m b) (hk : 0 ≤ k) (h1 : k ≤ 9223372036854775807) :
    Calls Tryd.prog 25 #[.pointer (some ⟨d, 0, none⟩), .int .i64 k] w fun e w' => e = .returned .nilIface ∧ After S w w' d n { m with left := k } b := by
  obtain ⟨gk, ck, gn, cn, vw, hx⟩ := h.ex
  refine (fail_ok d k m.left w (hx.bk.cell 0) (hx.bk.frozen 0) hk).mono ?_
  rintro e w' ⟨rfl, rfl⟩
  exact ⟨rfl, After.same ⟨⟨gk, ck, gn, cn, vw, hx.box 0 _⟩, h.ok.fail hk h1, fun k hs => by rw [World.size_setCell]; exact h.lt k hs, h.n1⟩ ((Keeps.refl S w).setCell (.inl hx.sd) _)⟩
theorem read_any (d n b : Nat) (m : Dk.DM) (i : Int) (S : Nat → Prop) (w : World) (E : Nat → Addr) (hE : ErD w E) (h : DS w S d n m b) :
    Calls Tryd.prog 11 #[.pointer (some ⟨d, 0, none⟩), .int .i64 i] w fun e w' => (((i < 0 ∨ (n : Int) ≤ i) ∧ e = .returned (.tuple #[.string ⟨#[]⟩, .iface 128 (.pointer (some (E 1)))])) ∨ (∃ k : Nat, i = k ∧ k < n ∧ e = .returned (.tuple #[.string (m.now k), .nilIface]))) ∧ Ext w w' := by
  obtain ⟨gk, ck, gn, cn, vw, hx⟩ := h.ex
  have hn := h.n1
  have c2 := hx.bk.cell 2
  have HN := Lib.hid hx.ns
  have HE := Lib.hid hE
  have e1 := hE.b
  clear hx h hE
  by_cases h0 : i < 0
  · have t0 : decide (i < 0) = true := decide_eq_true h0
    go_enter Tryd.func11, Tryd.ntmps11
    go_wp2_with fail
    go_region
    all_goals
      (try go_wp2_with fail)
      go_ret2
      exact ⟨.inl ⟨.inl h0, rfl⟩, (show Ext w _ from Below.drew (Ext.refl w))⟩
  · obtain ⟨k, rfl⟩ : ∃ k : Nat, i = k := ⟨i.toNat, by omega⟩
    by_cases h1 : k < n
    · have hs := (HN.out k h1).1
      have t1 : ¬ (n : Int) ≤ (k : Int) := by omega
      go_enter Tryd.func11, Tryd.ntmps11
      go_wp2_with fail
      go_ret2
      exact ⟨.inr ⟨k, rfl, h1, rfl⟩, Ext.refl _⟩
    · have t1 : (n : Int) ≤ (k : Int) := by omega
      go_enter Tryd.func11, Tryd.ntmps11
      go_wp2_with fail
      go_region
      all_goals
        (try go_wp2_with fail)
        go_ret2
        exact ⟨.inl ⟨.inr t1, rfl⟩, (show Ext w _ from Below.drew (Ext.refl w))⟩
end Go.Proofs.YtheidjagcafgnaaDoor
namespace Go.Proofs.YtheidjagcafgnaaDoor
open Go.RowKit
set_option maxRecDepth 100000
theorem write_bound (d n b : Nat) (m : Dk.DM) (i : Int) (s : ByteArray) (S : Nat → Prop) (w : World) (E : Nat → Addr) (hE : ErD w E) (h : DS w S d n m b) (hi : i < 0 ∨ (n : Int) ≤ i) :
    Calls Tryd.prog 24 #[.pointer (some ⟨d, 0, none⟩), .int .i64 i, .string s] w fun e w' => e = .returned (.iface 128 (.pointer (some (E 1)))) ∧ w' = w := by
  obtain ⟨gk, ck, gn, cn, vw, hx⟩ := h.ex
  have c2 := hx.bk.cell 2
  have e1 := hE.b
  clear hx h hE
  by_cases h0 : i < 0
  · have t0 : decide (i < 0) = true := decide_eq_true h0
    go_enter Tryd.func24, Tryd.ntmps24
    go_wp2_with fail
    go_ret
    exact ⟨rfl, rfl⟩
  · have t1 : (n : Int) ≤ i := by omega
    clear hi
    go_enter Tryd.func24, Tryd.ntmps24
    go_wp2_with fail
    go_ret
    exact ⟨rfl, rfl⟩
theorem write_shape (d n b i : Nat) (m : Dk.DM) (s : ByteArray) (S : Nat → Prop) (w : World) (E : Nat → Addr) (hE : ErD w E) (h : DS w S d n m b) (hi : i < n) (hs : 64 < s.size) :
    Calls Tryd.prog 24 #[.pointer (some ⟨d, 0, none⟩), .int .i64 (i : Int), .string s] w fun e w' => e = .returned (.iface 128 (.pointer (some (E 2)))) ∧ w' = w := by
  obtain ⟨gk, ck, gn, cn, vw, hx⟩ := h.ex
  have c2 := hx.bk.cell 2
  have e1 := hE.s
  clear hx h hE
  have t1 : ¬ (n : Int) ≤ (i : Int) := by omega
  have t2 : (64 : Int) < (s.size : Int) := by omega
  go_enter Tryd.func24, Tryd.ntmps24
  go_wp2_with fail
  go_ret
  exact ⟨rfl, rfl⟩
theorem write_power (d n b i : Nat) (m : Dk.DM) (s : ByteArray) (S : Nat → Prop) (w : World) (E : Nat → Addr) (hE : ErD w E) (h : DS w S d n m b) (hi : i < n) (hs : s.size ≤ 64) (h0 : m.left = 0) :
    Calls Tryd.prog 24 #[.pointer (some ⟨d, 0, none⟩), .int .i64 (i : Int), .string s] w fun e w' => e = .returned (.iface 128 (.pointer (some (E 8)))) ∧ w' = w := by
  obtain ⟨gk, ck, gn, cn, vw, hx⟩ := h.ex
  have c2 := hx.bk.cell 2
  have c0 := hx.bk.cell 0
  rw [h0] at c0
  have HC := Lib.hid (spend_no d w c0)
  have e1 := hE.p
  clear hx h hE h0 c0
  have t1 : ¬ (n : Int) ≤ (i : Int) := by omega
  have t2 : ¬ (64 : Int) < (s.size : Int) := by omega
  go_enter Tryd.func24, Tryd.ntmps24
  go_wp2_with fail
  refine HC.out.mono ?_
  rintro e w9 ⟨rfl, rfl⟩
  go_wp2_with fail
  go_ret
  exact ⟨rfl, rfl⟩
set_option linter.unusedSimpArgs false in
set_option maxHeartbeats 4000000 in
theorem write_ok (d n b i : Nat) (m : Dk.DM) (s : ByteArray) (S : Nat → Prop) (w : World) (h : DS w S d n m b) (hi : i < n) (hs : s.size ≤ 64) (h0 : m.left ≠ 0) (hb : b ≤ 5000) :
    Calls Tryd.prog 24 #[.pointer (some ⟨d, 0, none⟩), .int .i64 (i : Int), .string s] w fun e w' => e = .returned .nilIface ∧ After S w w' d n (Dk.wr m i (Dk.pad s)) (b + 1) := by
  obtain ⟨gk, ck, gn, cn, vw, hx⟩ := h.ex
  have HD := Lib.hid h
  have HS := Lib.hid (spend_dx hx h0 h.ok.left)
  have c2 := hx.bk.cell 2
  have hn := h.n1
  clear hx h h0
  have t1 : ¬ (n : Int) ≤ (i : Int) := by omega
  have t2 : ¬ (64 : Int) < (s.size : Int) := by omega
  obtain ⟨z, hz⟩ : ∃ z, 64 - s.size = z := ⟨_, rfl⟩
  have d1 : (64 : Int) - (s.size : Int) = (z : Int) := by omega
  have hz64 : z ≤ 64 := by omega
  have wz_ : ∀ q, q = (z : Int) → IntKind.i64.wrap q = q := by rintro _ rfl; rw [IntKind.wrap_i64]; omega
  have HZ := Lib.hid hz
  clear hz
  obtain ⟨i0, hi0, hz0, hz1, hz2⟩ := info_parts wrinf
  go_enter Tryd.func24, Tryd.ntmps24
  go_wp2_with fail
  refine HS.out.mono ?_
  rintro e w1 ⟨rfl, hx1, hk1, hs1⟩
  have X1 := Lib.hid hx1
  have K1 := Lib.hid (And.intro hk1 hs1)
  clear hx1 hk1 hs1 HS c2
  go_wp2_with fail
  refine (rep_any z hz64 w1).mono ?_
  rintro e w2 ⟨rfl, hx2⟩
  have X2 := Lib.hid (X1.out.ext hx2)
  have K2 := Lib.hid (And.intro (K1.out.1.trans (hx2.keeps (S := S)) (fun _ _ q => q)) (show w.heap.size ≤ w2.heap.size by rw [← K1.out.2]; exact hx2.size))
  clear hx2 X1 K1
  obtain ⟨zz, hzz⟩ : ∃ q, zB z = q := ⟨_, rfl⟩
  have hzs : zz.size = z := by rw [← hzz]; exact zB_size z
  have hsum : ¬ 9223372036854775807 < s.size + zz.size := by omega
  have HP : Hid (s ++ zz = Dk.pad s) := Lib.hid (by unfold Dk.pad; rw [HZ.out, hzz])
  rw [hzz]
  clear hzs hzz
  go_upto_region 8 with fail
  rw [HP.out]
  clear wz_ d1 hsum t1 t2
  have c2 := X2.out.bk.cell 2
  obtain ⟨c3, f3⟩ := X2.out.ns i hi
  have X3 := Lib.hid (X2.out.putN i (Dk.pad s) hi)
  have K3 := Lib.hid (And.intro (K2.out.1.setCell (p := ⟨gn, i, none⟩) (.inl X2.out.sn) (.string (Dk.pad s))) (show w.heap.size ≤ (w2.setCell ⟨gn, i, none⟩ (.string (Dk.pad s))).heap.size by rw [World.size_setCell]; exact K2.out.2))
  go_upto_region 9 with fail
  clear c2 c3 f3 X2 K2
  refine wp_world (fun wz => Hid (DX wz S d n 64 #[.int .i64 (Dk.dec m.left), .slice (some ⟨gk, 0, none⟩) n ck, .slice (some ⟨gn, 0, none⟩) n cn, vw] gk gn vw m.kept (Dk.upS m.now i (Dk.pad s)) m.ws) ∧ Hid (Keeps S w wz ∧ w.heap.size ≤ wz.heap.size)) ⟨X3, K3⟩ ?_
  clear X3 K3
  rintro w3 ⟨X3, K3⟩
  have c3 := X3.out.bk.cell 3
  have hwl := HD.out.ok.len
  have HRow := Lib.hid X3.out.wt
  obtain ⟨ln, hln⟩ : ∃ ln, m.ws.length = ln := ⟨_, rfl⟩
  rw [hln] at HRow hwl
  have HLN := Lib.hid hln
  have hS3 : ∀ k, S k → k < w3.heap.size := fun k hk => Nat.lt_of_lt_of_le (HD.out.lt k hk) K3.out.2
  have HS3 := Lib.hid hS3
  clear hln hS3
  go_wp2_with (at_builtin; refine wpList_append_own_at _ rfl _ _ 58 rfl 0 64 i0 _ 2 24 Tryd.underlying58 hi0 hz0 hz1 hz2 rfl (by decide) _ _ _ rfl (HRow.out.alloc _) ⟨w3.heap.size, 0, none⟩ 1 1 [.int .i64 (i : Int), .string (Dk.pad s)] rfl rfl ?c1 ?c2 ?c3 ?c4 ?c5 ?_)
  case c1 =>
    intro j u hu
    rw [add_plain]
    exact (Bk.at (w := w3) rfl).cell j |>.trans (by simpa using hu)
  case c2 => intro u hu; simp at hu; rcases hu with hu | hu <;> (subst hu; rfl)
  case c3 => unfold maxLen; omega
  case c4 => omega
  case c5 => omega
  intro v5 w5 hown hgrow _ hat
  have P5 := X3.out.push (p := (i, Dk.pad s)) HS3.out hgrow (by rw [wtV_append, List.length_append, HLN.out]; exact hown) (by simpa using hat)
  have X5 := Lib.hid P5.1
  have K5 := Lib.hid (K3.out.1.trans P5.2 (fun _ _ q => q))
  have Z5 := Lib.hid (show w3.heap.size ≤ w5.heap.size from P5.2.size)
  obtain ⟨ao, n', cap, rfl⟩ : ∃ ao n' cap, v5 = .slice ao n' cap := by
    rcases ownsRow_slice hown with ⟨hv, _⟩ | ⟨g, cap, hv⟩
    · exact ⟨_, _, _, hv⟩
    · exact ⟨_, _, _, hv⟩
  clear hown hgrow hat P5 c3 HRow
  have c5 := X5.out.bk.cell 3
  have f5 := X5.out.bk.frozen 3
  have X6 := Lib.hid (X5.out.box 3 (.slice ao n' cap))
  have K6 := Lib.hid (K5.out.setCell (p := ⟨d, 3, none⟩) (.inl X3.out.sd) (.slice ao n' cap))
  go_wp2_with fail
  go_ret
  refine ⟨rfl, ⟨⟨gk, ck, gn, cn, _, X6.out.mono fun k q => ?_⟩, HD.out.ok.wr hi, fun k q => ?_, hn⟩, K6.out⟩
  · rcases q with q | q
    · exact .inl q
    · have := K3.out.2
      exact .inr ⟨by omega, by rw [World.size_setCell]; exact q.2⟩
  · rcases q with q | q
    · have h1 := HS3.out k q
      have h2 := Z5.out
      rw [World.size_setCell]
      omega
    · exact q.2
theorem flush_power (d n b : Nat) (m : Dk.DM) (S : Nat → Prop) (w : World) (E : Nat → Addr) (hE : ErD w E) (h : DS w S d n m b) (h0 : m.left = 0) :
    Calls Tryd.prog 10 #[.pointer (some ⟨d, 0, none⟩)] w fun e w' => e = .returned (.iface 128 (.pointer (some (E 8)))) ∧ w' = w := by
  obtain ⟨gk, ck, gn, cn, vw, hx⟩ := h.ex
  have c0 := hx.bk.cell 0
  rw [h0] at c0
  have HC := Lib.hid (spend_no d w c0)
  have e1 := hE.p
  clear hx h hE h0 c0
  go_enter Tryd.func10, Tryd.ntmps10
  go_wp2_with fail
  refine HC.out.mono ?_
  rintro e w9 ⟨rfl, rfl⟩
  go_wp2_with fail
  go_ret
  exact ⟨rfl, rfl⟩
/-- the facts behind a new row of sectors that is kept -/
theorem DX.cloneK {w w2 : World} {S : Nat → Prop} {d n gk gn g c : Nat} {tw : TypeId} {l : Int} {vk vn vw : Value} {kept now f : Nat → ByteArray} {ws : List (Nat × ByteArray)}
    (h : DX w S d n tw #[.int .i64 l, vk, vn, vw] gk gn vw kept now ws) (hS : ∀ k, S k → k < w.heap.size) (hE : Ext w w2) (hg : Sr w2 g n f) (h1 : w.heap.size ≤ g) (h2 : g < w2.heap.size) :
    DX (w2.setCell ⟨d, 1, none⟩ (.slice (some ⟨g, 0, none⟩) n c)) (grow S w w2) d n tw #[.int .i64 l, .slice (some ⟨g, 0, none⟩) n c, vn, vw] g gn vw f now ws ∧ Keeps S w (w2.setCell ⟨d, 1, none⟩ (.slice (some ⟨g, 0, none⟩) n c)) := by
  have hx := ((h.ext hE).mono (S' := grow S w w2) fun _ => .inl).newK hg (.inr ⟨h1, h2⟩) (fun e => by have := hS _ h.sd; omega) (fun e => by have := hS _ h.sn; omega) (fun b hb e => by have := hS _ (h.sw b hb).1; omega) h2
  exact ⟨hx.box 1 _, (hE.keeps (S := S)).setCell (.inl h.sd) _⟩
theorem DX.cloneN {w w2 : World} {S : Nat → Prop} {d n gk gn g c : Nat} {tw : TypeId} {l : Int} {vk vn vw : Value} {kept now f : Nat → ByteArray} {ws : List (Nat × ByteArray)}
    (h : DX w S d n tw #[.int .i64 l, vk, vn, vw] gk gn vw kept now ws) (hS : ∀ k, S k → k < w.heap.size) (hE : Ext w w2) (hg : Sr w2 g n f) (h1 : w.heap.size ≤ g) (h2 : g < w2.heap.size) :
    DX (w2.setCell ⟨d, 2, none⟩ (.slice (some ⟨g, 0, none⟩) n c)) (grow S w w2) d n tw #[.int .i64 l, vk, .slice (some ⟨g, 0, none⟩) n c, vw] gk g vw kept f ws ∧ Keeps S w (w2.setCell ⟨d, 2, none⟩ (.slice (some ⟨g, 0, none⟩) n c)) := by
  have hx := ((h.ext hE).mono (S' := grow S w w2) fun _ => .inl).newN hg (.inr ⟨h1, h2⟩) (fun e => by have := hS _ h.sd; omega) (fun e => by have := hS _ h.sk; omega) (fun b hb e => by have := hS _ (h.sw b hb).1; omega) h2
  exact ⟨hx.box 2 _, (hE.keeps (S := S)).setCell (.inl h.sd) _⟩
theorem grow_more {S : Nat → Prop} {w w1 w2 w3 : World} (h1 : w.heap.size ≤ w1.heap.size) (h2 : w2.heap.size ≤ w3.heap.size) (k : Nat) (h : grow S w1 w2 k) : grow S w w3 k := by
  rcases h with q | q
  · exact .inl q
  · exact .inr ⟨by omega, by omega⟩
theorem flush_ok (d n b : Nat) (m : Dk.DM) (S : Nat → Prop) (w : World) (h : DS w S d n m b) (h0 : m.left ≠ 0) :
    Calls Tryd.prog 10 #[.pointer (some ⟨d, 0, none⟩)] w fun e w' => e = .returned .nilIface ∧ After S w w' d n (Dk.fl m) b := by
  obtain ⟨gk, ck, gn, cn, vw, hx⟩ := h.ex
  have HD := Lib.hid h
  have HS := Lib.hid (spend_dx hx h0 h.ok.left)
  have hn := h.n1
  clear hx h h0
  go_enter Tryd.func10, Tryd.ntmps10
  go_wp2_with fail
  refine HS.out.mono ?_
  rintro e w1 ⟨rfl, hx1, hk1, hs1⟩
  have X1 := Lib.hid hx1
  have K1 := Lib.hid (And.intro hk1 hs1)
  clear hx1 hk1 hs1 HS
  have c2 := X1.out.bk.cell 2
  go_wp2_with fail
  refine (clone_strs gn n cn m.now w1 X1.out.ns (by omega) (by omega)).mono ?_
  rintro e w2 ⟨⟨g', c', rfl, hg, hg1, hg2⟩, hE⟩
  have P := X1.out.cloneK (c := c') (fun k hk => by rw [K1.out.2]; exact HD.out.lt k hk) hE hg hg1 hg2
  have hle : w1.heap.size ≤ w2.heap.size := hE.size
  have X3 := Lib.hid P.1
  have K3 := Lib.hid (And.intro (K1.out.1.trans P.2 (fun _ _ q => q)) (And.intro hle (X1.out.ext hE).bk))
  have X4 := Lib.hid ((P.1.box 3 (.slice none 0 0)).noW)
  clear P hE hg hg1 hg2 c2 hle
  have f1 := K3.out.2.2.frozen 1
  have c1 := K3.out.2.2.cell 1
  have c3 := K3.out.2.2.cell 3
  have f3 := K3.out.2.2.frozen 3
  go_wp2_with fail
  go_ret
  refine ⟨rfl, ⟨⟨g', c', gn, cn, _, X4.out.mono fun k q => ?_⟩, HD.out.ok.fl, fun k q => ?_, hn⟩, K3.out.1.setCell (p := ⟨d, 3, none⟩) (.inl X1.out.sd) _⟩
  · rcases q with q | q
    · exact .inl q
    · have := K1.out.2
      exact .inr ⟨by omega, by simp; omega⟩
  · have h2 := K3.out.2.1
    have h3 := K1.out.2
    simp only [World.size_setCell] at q ⊢
    rcases q with q | q
    · have h1 := HD.out.lt k q
      omega
    · simp only [World.size_setCell] at q
      exact q.2
end Go.Proofs.YtheidjagcafgnaaDoor
namespace Go.Proofs.YtheidjagcafgnaaDoor
open Go.RowKit
set_option maxRecDepth 100000
theorem own_form {w : World} {base : Nat} {e : TypeId} {size : Nat} {v : Value} {n : Nat} {xs : List Value} (h : w.ownsRow base e size v n xs) : ∃ x c, v = .slice x n c ∧ (∀ a, x = some a → ∃ g, a = ⟨g, 0, none⟩) ∧ (x = none → n = 0) := by
  rcases ownsRow_slice h with ⟨h1, h2⟩ | ⟨g, cap, h1⟩
  · subst h2; exact ⟨none, 0, h1, (fun a ha => by cases ha), fun _ => rfl⟩
  · exact ⟨_, cap, h1, (fun a ha => by injection ha with ha; exact ⟨g, ha.symm⟩), fun ha => by cases ha⟩
/-- a row of bools, wherever it lies, outside S -/
def KR (w : World) (S : Nat → Prop) (x : Option Addr) (n : Nat) (kb : Nat → Bool) : Prop := (x = none → n = 0) ∧ ∀ a, x = some a → ∀ j, j < n → w.cell? (a.add j) = some (.bool (kb j)) ∧ ¬ S (a.add j).block
theorem KR.keeps {w w' : World} {S : Nat → Prop} {x : Option Addr} {n : Nat} {kb : Nat → Bool} (h : KR w S x n kb) (hk : Keeps S w w') : KR w' S x n kb :=
  ⟨h.1, fun a ha j hj => by
    obtain ⟨h1, h2⟩ := h.2 a ha j hj
    exact ⟨(hk.cell (World.block_lt_of_cell? w _ h1) h2).trans h1, h2⟩⟩
def kf (n : Nat) (kb : Nat → Bool) (j : Nat) : Bool := decide (j < n) && kb j
set_option linter.unusedSimpArgs false in
set_option maxHeartbeats 4000000 in
theorem crash_any (d n b : Nat) (m : Dk.DM) (S : Nat → Prop) (w : World) (h : DS w S d n m b) (hb : b ≤ 5000) (kx : Option Addr) (kn kc : Nat) (kb : Nat → Bool) (hk : KR w S kx kn kb) (_hkn : kn ≤ 100000) :
    Calls Tryd.prog 12 #[.pointer (some ⟨d, 0, none⟩), .slice kx kn kc] w fun e w' => e = .returned (.tuple #[]) ∧ After S w w' d n (Dk.cr m (kf kn kb)) b := by
  obtain ⟨gk, ck, gn, cn, vw, hx⟩ := h.ex
  obtain ⟨vx, vc, rfl, hvx, hv0⟩ := own_form hx.wt
  have HD := Lib.hid h
  have HK := Lib.hid hk
  have hn := h.n1
  have hwl := h.ok.len
  have c3 := hx.bk.cell 3
  obtain ⟨ln, hln⟩ : ∃ ln, m.ws.length = ln := ⟨_, rfl⟩
  have HL := Lib.hid hln
  rw [hln] at hx hv0 hwl c3
  have X0 := Lib.hid hx
  have HV := Lib.hid (And.intro hvx hv0)
  clear hx h hk hvx hv0 hln
  go_enter Tryd.func12, Tryd.ntmps12
  go_wp2_with fail
  go_loopw [11] (fun cc wr => ∃ i : Nat, i ≤ ln ∧ cc = .int .i64 (i : Int) ∧ Hid (DX wr S d n 64 #[.int .i64 m.left, .slice (some ⟨gk, 0, none⟩) n ck, .slice (some ⟨gn, 0, none⟩) n cn, .slice vx ln vc] gk gn (.slice vx ln vc) (Dk.crk (kf kn kb) m.ws m.kept i) m.now m.ws) ∧ Hid (Keeps S w wr)) (fun cc _ => ln - (intOf cc).toNat)
  case atStart => exact ⟨0, by omega, rfl, X0, Lib.hid (Keeps.refl S w)⟩
  case round =>
    clear X0 c3
    obtain ⟨i, hi, rfl, X, K⟩ := hrel
    by_cases hlt : i < ln
    · obtain ⟨⟨pi, ps⟩, hp⟩ : ∃ p, m.ws[i]? = some p := ⟨m.ws[i]'(by rw [HL.out]; exact hlt), List.getElem?_eq_getElem _⟩
      have hpi : pi < n := HD.out.ok.ws (pi, ps) (List.mem_of_getElem? hp)
      have HP := Lib.hid hp
      obtain ⟨ga, rfl⟩ : ∃ ga, vx = some ga := by
        cases vx with
        | none => have := HV.out.2 rfl; omega
        | some ga => exact ⟨ga, rfl⟩
      obtain ⟨gw, rfl⟩ := HV.out.1 ga rfl
      have hrow := X.out.wt
      rw [HL.out] at hrow
      obtain ⟨q0, q1⟩ := wtV_get0 m.ws i (pi, ps) hp
      have c0 := (hrow.cellAt (i * 2) (by omega)).trans q0
      have c1 := (hrow.cellAt (i * 2 + 1) (by omega)).trans q1
      clear q0 q1 hrow hp
      have ht : (i : Int) < (ln : Int) := by omega
      have KX := Lib.hid (HK.out.keeps K.out)
      have K2 := Lib.hid ((K.out).alloc (.cells #[.int .i64 (pi : Int), .string ps] 64))
      have X2 := Lib.hid (X.out.ext (Ext.alloc (Ext.refl wr) (.cells #[.int .i64 (pi : Int), .string ps] 64)))
      have wi : ∀ z, z = (i : Int) + 1 → IntKind.i64.wrap z = z := by rintro _ rfl; rw [IntKind.wrap_i64]; omega
      by_cases hik : i < kn
      · obtain ⟨ka, rfl⟩ : ∃ ka, kx = some ka := by
          cases kx with
          | none => have := KX.out.1 rfl; omega
          | some ka => exact ⟨ka, rfl⟩
        obtain ⟨k1, _⟩ := KX.out.2 ka rfl i hik
        have k2 := (((Ext.refl wr).alloc (.cells #[.int .i64 (pi : Int), .string ps] 64)).keeps (S := fun _ => False) |>.cell (World.block_lt_of_cell? wr _ k1) id).trans k1
        have hik' : (i : Int) < (kn : Int) := by omega
        cases hkb : kb i
        · rw [hkb] at k1 k2
          have HF : Hid (kf kn kb i = false) := Lib.hid (by unfold kf; rw [hkb]; simp)
          clear hkb
          go_wp2_with fail
          go_roundw
          case rel =>
            refine ⟨i + 1, by omega, by go_num, Lib.hid ?_, K2⟩
            have := X2.out
            simpa only [Dk.crk, HP.out, HF.out, if_false, Bool.false_eq_true] using this
          case measure => simp [intOf]; omega
        · rw [hkb] at k1 k2
          have HF : Hid (kf kn kb i = true) := Lib.hid (by unfold kf; rw [hkb]; simp [hik])
          clear hkb
          go_upto_region 4 with fail
          refine wp_world (fun wz => Hid (DX wz S d n 64 #[.int .i64 m.left, .slice (some ⟨gk, 0, none⟩) n ck, .slice (some ⟨gn, 0, none⟩) n cn, .slice (some ⟨gw, 0, none⟩) ln vc] gk gn (.slice (some ⟨gw, 0, none⟩) ln vc) (Dk.crk (kf kn kb) m.ws m.kept i) m.now m.ws) ∧ Hid (Keeps S w wz) ∧ Hid (Bk wz wr.heap.size #[.int .i64 (pi : Int), .string ps])) ⟨X2, K2, Lib.hid (Bk.at rfl)⟩ ?_
          obtain ⟨T, hT⟩ : ∃ T, wr.heap.size = T := ⟨_, rfl⟩
          rw [hT]
          clear X2 K2 X K KX c0 c1 k1 k2 hT
          rintro w2 ⟨X2, K2, B2⟩
          have b0 := B2.out.cell 0
          have b1 := B2.out.cell 1
          have c1 := X2.out.bk.cell 1
          obtain ⟨s0, f0⟩ := X2.out.ks pi hpi
          have X3 := Lib.hid (X2.out.putK pi ps hpi)
          have K3 := Lib.hid (K2.out.setCell (p := ⟨gk, pi, none⟩) (.inl X2.out.sk) (.string ps))
          refine wp_region_still_tail 9 (by kernel_rfl) (by kernel_rfl) ?_
          simp only [List.take_succ_cons, List.take_zero, List.drop_succ_cons, List.drop_zero]
          repeat still_step
          refine wpStill_nil ?_
          change wpList _ _ _ _ _ w2.drew
          go_wp2_with fail
          go_roundw
          case rel =>
            refine ⟨i + 1, by omega, by go_num, Lib.hid ?_, Lib.hid (K3.out.drew)⟩
            have := X3.out.ext (show Ext _ (w2.setCell ⟨gk, pi, none⟩ (.string ps)).drew from Below.drew (Ext.refl _))
            simpa only [Dk.crk, HP.out, HF.out, if_true] using this
          case measure => simp [intOf]; omega
      · have hik' : ¬ (i : Int) < (kn : Int) := by omega
        have HF : Hid (kf kn kb i = false) := Lib.hid (by unfold kf; rw [decide_eq_false hik]; rfl)
        go_wp2_with fail
        go_roundw
        case rel =>
          refine ⟨i + 1, by omega, by go_num, Lib.hid ?_, K2⟩
          have := X2.out
          simpa only [Dk.crk, HP.out, HF.out, if_false, Bool.false_eq_true] using this
        case measure => simp [intOf]; omega
    · obtain rfl : i = ln := by omega
      have c1 := X.out.bk.cell 1
      have hS : ∀ k, S k → k < wr.heap.size := fun k hk => Nat.lt_of_lt_of_le (HD.out.lt k hk) K.out.size
      have HS := Lib.hid hS
      clear hS
      go_wp2_with fail
      refine (clone_strs gk n ck _ wr X.out.ks (by omega) (by omega)).mono ?_
      rintro e w2 ⟨⟨g', c', rfl, hg, hg1, hg2⟩, hE⟩
      have P := X.out.cloneN (c := c') HS.out hE hg hg1 hg2
      have hle : wr.heap.size ≤ w2.heap.size := hE.size
      have K3 := Lib.hid (And.intro (K.out.trans P.2 (fun _ _ q => q)) (And.intro hle (X.out.ext hE).bk))
      have X4 := Lib.hid (((P.1.box 3 (.slice none 0 0)).noW).box 0 (.int .i64 (-1)))
      clear P hE hg hg1 hg2 hle c1
      have f0 := K3.out.2.2.frozen 0
      have c0 := K3.out.2.2.cell 0
      have f2 := K3.out.2.2.frozen 2
      have c2 := K3.out.2.2.cell 2
      have c3 := K3.out.2.2.cell 3
      have f3 := K3.out.2.2.frozen 3
      go_wp2_with fail
      go_end0
      refine ⟨rfl, ⟨⟨gk, ck, g', c', .slice none 0 0, ?_⟩, HD.out.ok.cr _, fun k q => ?_, hn⟩, (K3.out.1.setCell (p := ⟨d, 3, none⟩) (.inl X.out.sd) _).setCell (p := ⟨d, 0, none⟩) (.inl X.out.sd) _⟩
      · have hm := X4.out.mono (S' := grow S w (((w2.setCell ⟨d, 2, none⟩ (.slice (some ⟨g', 0, none⟩) n c')).setCell ⟨d, 3, none⟩ (.slice none 0 0)).setCell ⟨d, 0, none⟩ (.int .i64 (-1)))) (fun k q => by
          rcases q with q | q
          · exact .inl q
          · have := K.out.size
            exact .inr ⟨by omega, by simp; omega⟩)
        unfold Dk.cr
        rw [HL.out]
        exact hm
      · have h2 := K3.out.2.1
        have h3 := K.out.size
        rcases q with q | q
        · have h1 := HD.out.lt k q
          simp only [World.size_setCell]
          omega
        · exact q.2
end Go.Proofs.YtheidjagcafgnaaDoor
namespace Go.Proofs.YtheidjagcafgnaaDoor
open Go.RowKit
set_option maxRecDepth 100000
theorem new_bad (n : Int) (w : World) (E : Nat → Addr) (hE : ErD w E) (hn : n < 1 ∨ 4000 < n) :
    Calls Tryd.prog 8 #[.int .i64 n] w fun e w' => e = .returned (.tuple #[.pointer none, .iface 128 (.pointer (some (E 1)))]) ∧ Ext w w' := by
  have e1 := hE.b
  clear hE
  by_cases h0 : n < 1
  · have t0 : decide (n < 1) = true := decide_eq_true h0
    clear hn
    go_enter Tryd.func8, Tryd.ntmps8
    go_wp2_with fail
    go_region
    all_goals
      (try go_wp2_with fail)
      go_ret2
      exact ⟨rfl, (show Ext w _ from Below.drew (Ext.refl w))⟩
  · have t1 : 4000 < n := by omega
    clear hn
    go_enter Tryd.func8, Tryd.ntmps8
    go_wp2_with fail
    go_region
    all_goals
      (try go_wp2_with fail)
      go_ret2
      exact ⟨rfl, (show Ext w _ from Below.drew (Ext.refl w))⟩
set_option maxHeartbeats 2000000 in
theorem new_ok (n : Nat) (w : World) (hn : 1 ≤ n ∧ n ≤ 4000) :
    Calls Tryd.prog 8 #[.int .i64 (n : Int)] w fun e w' => (∃ d, e = .returned (.tuple #[.pointer (some ⟨d, 0, none⟩), .nilIface]) ∧ DS w' (fun k => w.heap.size ≤ k ∧ k < w'.heap.size) d n Dk.new 0) ∧ Ext w w' := by
  have t0 : ¬ (n : Int) < 1 := by omega
  have t1 : ¬ (4000 : Int) < (n : Int) := by omega
  have z1 : (⟨#[0]⟩ : ByteArray) = zB 1 := rfl
  go_enter Tryd.func8, Tryd.ntmps8
  go_wp2_with fail
  refine (rep_any 64 (by omega) w).mono ?_
  rintro e w1 ⟨rfl, hx1⟩
  have X1 := Lib.hid hx1
  clear hx1 t0 t1 z1
  go_wp2_with fail
  refine (reps_any w1.heap.size n (zB 64) (w1.alloc (.cells #[.string (zB 64)] 9)) (by rw [World.cell?_alloc_at _ _ _ _ rfl]; rfl) hn.1 (by omega)).mono ?_
  rintro e w2 ⟨⟨g, c, rfl, hg, hg1, hg2⟩, hE⟩
  have X2 := Lib.hid (X1.out.trans ((Ext.alloc (Ext.refl w1) (.cells #[.string (zB 64)] 9)).trans hE))
  have R2 := Lib.hid hg
  have G2 := Lib.hid (And.intro (show w1.heap.size + 1 ≤ g by simpa using hg1) hg2)
  clear hE hg hg1 hg2
  go_wp2_with fail
  refine (clone_strs g n c _ w2 R2.out (by omega) (by omega)).mono ?_
  rintro e w3 ⟨⟨g', c', rfl, hg, hg1, hg2⟩, hE⟩
  have X3 := Lib.hid (X2.out.trans hE)
  have R3 := Lib.hid (And.intro (Cv.ext R2.out hE) hg)
  have G3 := Lib.hid (And.intro hg1 (And.intro hg2 hE.size))
  clear hE hg hg1 hg2 R2
  go_wp2_with fail
  go_ret2
  have E_ := (Ext.refl w3).alloc (.cells #[.int .i64 (-1), .slice (some ⟨g, 0, none⟩) n c, .slice (some ⟨g', 0, none⟩) n c', .slice none 0 0] 60)
  have a1 := G2.out
  have a2 := G3.out
  have a3 := X1.out.size
  have a4 := X3.out.size
  refine ⟨⟨w3.heap.size, rfl, ⟨g, c, g', c', .slice none 0 0, ⟨Bk.at rfl, Cv.ext R3.out.1 E_, Cv.ext R3.out.2 E_, World.ownsRow_nil _ _ _ _, ⟨by omega, by simp⟩, ⟨by omega, by simp; omega⟩, ⟨by omega, by simp; omega⟩, (fun b hb => by cases hb), by omega, by omega, by omega, by simp; omega, by simp; omega⟩⟩, Dk.Ok.new n, fun k q => q.2, hn⟩, X3.out.trans E_⟩
theorem sectors_any (d n b : Nat) (m : Dk.DM) (S : Nat → Prop) (w : World) (h : DS w S d n m b) :
    Calls Tryd.prog 20 #[.pointer (some ⟨d, 0, none⟩)] w fun e w' => e = .returned (.int .i64 (n : Int)) ∧ w' = w := by
  obtain ⟨gk, ck, gn, cn, vw, hx⟩ := h.ex
  have c2 := hx.bk.cell 2
  clear hx h
  go_enter Tryd.func20, Tryd.ntmps20
  go_wp2_with fail
  go_ret
  exact ⟨rfl, rfl⟩
theorem waiting_any (d n b : Nat) (m : Dk.DM) (S : Nat → Prop) (w : World) (h : DS w S d n m b) :
    Calls Tryd.prog 13 #[.pointer (some ⟨d, 0, none⟩)] w fun e w' => e = .returned (.int .i64 (m.ws.length : Int)) ∧ w' = w := by
  obtain ⟨gk, ck, gn, cn, vw, hx⟩ := h.ex
  obtain ⟨vx, vc, rfl, _, _⟩ := own_form hx.wt
  have c2 := hx.bk.cell 3
  obtain ⟨ln, hln⟩ : ∃ ln, m.ws.length = ln := ⟨_, rfl⟩
  rw [hln] at c2 ⊢
  clear hx h hln
  go_enter Tryd.func13, Tryd.ntmps13
  go_wp2_with fail
  go_ret
  exact ⟨rfl, rfl⟩
theorem fresh_any (w : World) (E : Nat → Addr) (hE : ErD w E) : Calls Tryd.prog 6 #[] w fun e w' => e = .returned (.bool true) ∧ Ext w w' := by
  have HE := Lib.hid hE
  clear hE
  go_enter Tryd.func6, Tryd.ntmps6
  go_wp2_with fail
  refine (new_ok 2 w (by omega)).mono ?_
  rintro e w1 ⟨⟨d, rfl, hd⟩, hX⟩
  have D1 := Lib.hid hd
  have X1 := Lib.hid hX
  clear hd hX
  go_wp2_with fail
  refine (sectors_any d 2 0 _ _ w1 D1.out).mono ?_
  rintro e w9 ⟨rfl, rfl⟩
  go_wp2_with fail
  refine (waiting_any d 2 0 _ _ w9 D1.out).mono ?_
  rintro e w8 ⟨rfl, rfl⟩
  rw [show (Dk.new.ws.length : Int) = 0 from rfl]
  go_wp2_with fail
  refine (read_any d 2 0 _ 1 _ w8 E (HE.out.ext X1.out) D1.out).mono ?_
  rintro e w2 ⟨h, hX⟩
  obtain rfl : e = .returned (.tuple #[.string (zB 64), .nilIface]) := by
    rcases h with ⟨h, _⟩ | ⟨k, h1, h2, rfl⟩
    · exfalso; omega
    · rfl
  have X2 := Lib.hid (X1.out.trans hX)
  clear h hX
  have hmk : (Instr.makeSlice 52 (.int .i64 64) (.int .i64 64)).run Tryd.prog w2 = .ok (.slice (some ⟨w2.heap.size, 0, none⟩) 64 64) (w2.alloc (.cells (madeCells #[.int .u8 0] 64) 5)) :=
    run_make_row' (P := Tryd.prog) 52 5 (.int .u8 0) 1 Tryd.underlying52 u8info rfl .i64 .i64 64 (by omega) (by omega) w2
  have hcv : (convert 52 9 (.slice (some ⟨w2.heap.size, 0, none⟩) 64 64)).run Tryd.prog (w2.alloc (.cells (madeCells #[.int .u8 0] 64) 5)) = .ok (.string (zB 64)) (w2.alloc (.cells (madeCells #[.int .u8 0] 64) 5)) := by
    have h := run_convert_bytes_back (P := Tryd.prog) (w2.alloc (.cells (madeCells #[.int .u8 0] 64) 5)) 52 9 5 ⟨w2.heap.size, 0, none⟩ 64 (List.replicate 64 0) Tryd.underlying52 Tryd.underlying5 Tryd.underlying9 (fun j hj => by
      rw [List.length_replicate] at hj
      rw [add_plain, (Cv.made w2 64 (.int .u8 0) 5 j hj).1, List.getElem_replicate]; rfl)
    rw [List.length_replicate] at h
    exact h
  go_wp2_with fail
  go_ret
  exact ⟨by simp, X2.out.alloc _⟩
end Go.Proofs.YtheidjagcafgnaaDoor
namespace Go.Proofs.YtheidjagcafgnaaDoor
open Go.RowKit
set_option maxRecDepth 100000
structure Ac where
  kind : ByteArray
  n : Int
  s : ByteArray
  kx : Option Addr
  kn : Nat
  kc : Nat
  kb : Nat → Bool
def acV (a : Ac) : Value := .agg #[.string a.kind, .int .i64 a.n, .string a.s, .slice a.kx a.kn a.kc]
/-- a row of bools, wherever it lies -/
def Kp (w : World) (x : Option Addr) (n : Nat) (kb : Nat → Bool) : Prop := (x = none → n = 0) ∧ ∀ a, x = some a → ∀ j, j < n → w.cell? (a.add j) = some (.bool (kb j))
theorem Kp.ext {w w' : World} {x : Option Addr} {n : Nat} {kb : Nat → Bool} (h : Kp w x n kb) (hE : Ext w w') : Kp w' x n kb :=
  ⟨h.1, fun a ha j hj => by have h1 := h.2 a ha j hj; exact (hE.keeps (S := fun _ => False) |>.cell (World.block_lt_of_cell? w _ h1) id).trans h1⟩
structure Ac.Ok (w : World) (a : Ac) : Prop where
  n : -9223372036854775808 ≤ a.n ∧ a.n ≤ 9223372036854775807
  s : a.s.size ≤ 9223372036854775807
  kn : a.kn ≤ 9223372036854775807
  kp : Kp w a.kx a.kn a.kb
def Acs (w : World) (x : Option Addr) (n : Nat) (ac : Nat → Ac) : Prop :=
  (x = none → n = 0) ∧ ∀ a, x = some a → ∀ i, i < n →
    w.cell? (a.add (i * 4)) = some (.string (ac i).kind) ∧ w.cell? ⟨(a.add (i * 4)).block, (a.add (i * 4)).off + 1, none⟩ = some (.int .i64 (ac i).n) ∧
    w.cell? ⟨(a.add (i * 4)).block, (a.add (i * 4)).off + 2, none⟩ = some (.string (ac i).s) ∧ w.cell? ⟨(a.add (i * 4)).block, (a.add (i * 4)).off + 3, none⟩ = some (.slice (ac i).kx (ac i).kn (ac i).kc) ∧ (ac i).Ok w
theorem Acs.ext {w w' : World} {x : Option Addr} {n : Nat} {ac : Nat → Ac} (h : Acs w x n ac) (hE : Ext w w') : Acs w' x n ac := by
  refine ⟨h.1, fun a ha i hi => ?_⟩
  obtain ⟨c0, c1, c2, c3, ok⟩ := h.2 a ha i hi
  have K := hE.keeps (S := fun _ => False)
  have hl : (a.add (i * 4)).block < w.heap.size := World.block_lt_of_cell? w _ c0
  exact ⟨(K.cell hl id).trans c0, (K.cell (p := ⟨_, _, none⟩) hl id).trans c1, (K.cell (p := ⟨_, _, none⟩) hl id).trans c2, (K.cell (p := ⟨_, _, none⟩) hl id).trans c3, ⟨ok.n, ok.s, ok.kn, ok.kp.ext hE⟩⟩
def fewA (n : Nat) (ac : Nat → Ac) : Prop := n ≤ 60 ∧ ∀ i, i < n → (ac i).s.size ≤ 200 ∧ (ac i).kn ≤ 200
def FewP (n : Nat) (ac : Nat → Ac) (e : Ending) : Prop := ∃ b, e = .returned (.bool b) ∧ (b = true → fewA n ac)
set_option linter.unusedSimpArgs false in
theorem few_any (x : Option Addr) (n c : Nat) (ac : Nat → Ac) (w : World) (h : Acs w x n ac) (hn : n ≤ maxLen) :
    Calls Tryd.prog 7 #[.slice x n c] w fun e w' => FewP n ac e ∧ w' = w := by
  have HA := Lib.hid h
  clear h
  unfold maxLen at hn
  go_enter Tryd.func7, Tryd.ntmps7
  go_wp2_with fail
  go_loopw [3] (fun cc wr => ∃ i : Nat, i ≤ n ∧ cc = .int .i64 (i : Int) ∧ Hid (∀ k, k < i → (ac k).s.size ≤ 200 ∧ (ac k).kn ≤ 200) ∧ wr = w) (fun cc _ => n - (intOf cc).toNat)
  case atStart => exact ⟨0, by omega, rfl, Lib.hid (fun k hk => by omega), rfl⟩
  case round =>
    obtain ⟨i, hi, rfl, HI, rfl⟩ := hrel
    by_cases hlt : i < n
    · have ht : (i : Int) < (n : Int) := by omega
      obtain ⟨a, rfl⟩ : ∃ a, x = some a := by
        cases x with
        | none => have := HA.out.1 rfl; omega
        | some a => exact ⟨a, rfl⟩
      obtain ⟨c0, c1, c2, c3, ok⟩ := HA.out.2 a rfl i hlt
      have HO := Lib.hid ok
      have wi : ∀ z, z = (i : Int) + 1 → IntKind.i64.wrap z = z := by rintro _ rfl; rw [IntKind.wrap_i64]; omega
      clear ok
      by_cases h1 : (ac i).s.size ≤ 200
      · have t1 : ¬ (200 : Int) < ((ac i).s.size : Int) := by omega
        by_cases h2 : (ac i).kn ≤ 200
        · have t2 : ¬ (200 : Int) < ((ac i).kn : Int) := by omega
          have HN : Hid (∀ k, k < i + 1 → (ac k).s.size ≤ 200 ∧ (ac k).kn ≤ 200) := Lib.hid (fun k hk => by
            rcases Nat.lt_or_ge k i with q | q
            · exact HI.out k q
            · obtain rfl : k = i := by omega
              exact ⟨h1, h2⟩)
          go_wp2_with fail
          go_roundw
          case rel => exact ⟨i + 1, by omega, by go_num, HN, by simp⟩
          case measure => simp [intOf]; omega
        · have t2 : (200 : Int) < ((ac i).kn : Int) := by omega
          go_wp2_with fail
          go_ret
          exact ⟨⟨false, rfl, fun e => by cases e⟩, rfl⟩
      · have t1 : (200 : Int) < ((ac i).s.size : Int) := by omega
        go_wp2_with fail
        go_ret
        exact ⟨⟨false, rfl, fun e => by cases e⟩, rfl⟩
    · obtain rfl : i = n := by omega
      by_cases h6 : i ≤ 60
      · have t6 : (i : Int) ≤ 60 := by omega
        go_wp2_with fail
        go_ret
        exact ⟨⟨true, by simp, fun _ => ⟨h6, HI.out⟩⟩, rfl⟩
      · have t6 : ¬ (i : Int) ≤ 60 := by omega
        go_wp2_with fail
        go_ret
        exact ⟨⟨false, by simp, fun e => by cases e⟩, rfl⟩
def kWrite : ByteArray := ⟨#[119, 114, 105, 116, 101]⟩
def kFlush : ByteArray := ⟨#[102, 108, 117, 115, 104]⟩
def kFail : ByteArray := ⟨#[102, 97, 105, 108]⟩
def kCrash : ByteArray := ⟨#[99, 114, 97, 115, 104]⟩
/-- what an act does, and the number of its error -/
def doA (n : Nat) (a : Ac) (m : Dk.DM) : Dk.DM × Nat :=
  if a.kind = kWrite then
    if a.n < 0 ∨ (n : Int) ≤ a.n then (m, 2) else if 64 < a.s.size then (m, 3) else if m.left = 0 then (m, 9) else (Dk.wr m a.n.toNat (Dk.pad a.s), 0)
  else if a.kind = kFlush then (if m.left = 0 then (m, 9) else (Dk.fl m, 0))
  else if a.kind = kFail then (if a.n < 0 then (m, 2) else ({ m with left := a.n }, 0))
  else if a.kind = kCrash then (Dk.cr m (kf a.kn a.kb), 0)
  else (m, 0)
/-- an error of a number -/
def erV (E : Nat → Addr) : Nat → Value
  | 0 => .nilIface
  | k + 1 => .iface 128 (.pointer (some (E k)))
end Go.Proofs.YtheidjagcafgnaaDoor
