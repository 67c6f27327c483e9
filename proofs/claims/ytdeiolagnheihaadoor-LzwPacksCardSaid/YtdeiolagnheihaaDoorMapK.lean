/- A map whose keys are a number and a byte, in memory. -/
import Derived.Test.YtdeiolagnheihaaDoorBox
import Derived.Maps.OwnSet
import Derived.DeepKeys4
namespace Go.Proofs.YtdeiolagnheihaaDoor
open Go.RowKit
set_option maxRecDepth 100000
def kv (k c : Nat) : Value := .agg #[.int .i64 (k : Int), .int .u8 (c : Int)]
theorem kv_inj {k c k' c' : Nat} (h : kv k c = kv k' c') : k = k' ∧ c = c' := by
  unfold kv at h
  injection h with h
  simp at h
  omega
theorem key_law : Maps.Keyed Tryd.prog 79 := Maps.Keyed.of_law (deep_law_laid (by kernel_rfl) (m := 5) (by decide) (of_decide_eq_true (by kernel_rfl)) (by kernel_rfl) (by kernel_rfl))
theorem wf_u8 {c : Nat} (hc : c < 256) : (Lit.int .u8 (c : Int)).wf = true := by
  exact WalkArith.wf_u8 (by omega)
theorem key_of_gen {P : Program} {K I U : TypeId} {f0 f1 : Field} (uK : P.underlying K = some (.struct #[f0, f1])) (t0 : f0.type = I) (t1 : f1.type = U) (o0 : f0.offset = 0) (o1 : f1.offset = 1) (n0 : (f0.name != "_") = true) (n1 : (f1.name != "_") = true)
    (uI : P.underlying I = some (.int .i64)) (uU : P.underlying U = some (.int .u8)) (e1 : P.keyType K = true) (e2 : P.cellsOf K = 2) (e3 : P.cellsOf I = 1) (e4 : P.cellsOf U = 1) (hp : 0 < P.types.size) (k c : Nat) (hk : k ≤ 1000000) (hc : c < 256) : ∃ l, keyOf P K (kv k c) = some l := by
  have h1 : (Lit.int .i64 (k : Int)).wf = true := WalkArith.wf_i64 (by omega)
  have h2 := wf_u8 hc
  obtain ⟨d, hd⟩ : ∃ d, P.types.size = d + 1 := ⟨P.types.size - 1, by omega⟩
  refine ⟨.string (keyBytes [.int .i64 (k : Int), .int .u8 (c : Int)]), ?_⟩
  unfold keyOf kv
  simp [uK, Value.formed, Value.cells, Program.keyLits, hd, h1, h2, e1, e2, e3, e4, uI, uU, t0, t1, o0, o1, n0, n1]
theorem key_u : Tryd.prog.keyType 79 = true := by kernel_rfl
theorem key_c : Tryd.prog.cellsOf 79 = 2 := by kernel_rfl
theorem key_ci : Tryd.prog.cellsOf 3 = 1 := by kernel_rfl
theorem key_cu : Tryd.prog.cellsOf 5 = 1 := by kernel_rfl
theorem key_p : 0 < Tryd.prog.types.size := of_decide_eq_true (by kernel_rfl)
theorem key_of (k c : Nat) (hk : k ≤ 1000000) (hc : c < 256) : ∃ l, keyOf Tryd.prog 79 (kv k c) = some l :=
  key_of_gen Tryd.underlying79 rfl rfl rfl rfl rfl rfl Tryd.underlying3 Tryd.underlying5 key_u key_c key_ci key_cu key_p k c hk hc
/-- block b is a map that reads as g -/
def MK (w : World) (b m : Nat) (g : Nat → Nat → Option Nat) : Prop :=
  ∃ es clock, w.heap[b]? = some (.map es clock) ∧ es.size ≤ m ∧ (∀ e ∈ es.toList, ∃ k c n, e.key = kv k c ∧ k ≤ 1000000 ∧ c < 256 ∧ e.val = .int .i64 ((n : Nat) : Int) ∧ g k c = some n) ∧ (∀ k c n, g k c = some n → ∃ e ∈ es.toList, e.key = kv k c)
theorem MK.lt {w : World} {b m : Nat} {g : Nat → Nat → Option Nat} (h : MK w b m g) : b < w.heap.size := by
  obtain ⟨es, clock, hb, _⟩ := h
  exact lt_of_block hb
theorem MK.keeps {S : Nat → Prop} {w w' : World} {b m : Nat} {g : Nat → Nat → Option Nat} (h : MK w b m g) (hk : Keeps S w w') (hS : ¬ S b) : MK w' b m g := by
  have hl := h.lt
  obtain ⟨es, clock, hb, r⟩ := h
  exact ⟨es, clock, (hk.block b hl hS).trans hb, r⟩
theorem MK.ext {w w' : World} {b m : Nat} {g : Nat → Nat → Option Nat} (h : MK w b m g) (hE : Ext w w') : MK w' b m g := h.keeps (S := fun _ => False) hE.keeps id
theorem MK.new (w : World) : MK (w.alloc (.map #[] 0)) w.heap.size 0 (fun _ _ => none) :=
  ⟨#[], 0, heap_alloc_new w _, by simp, by simp, fun _ _ _ h => by cases h⟩
theorem MK.look {w : World} {b m k c : Nat} {g : Nat → Nat → Option Nat} (h : MK w b m g) (hk : k ≤ 1000000) (hc : c < 256) :
    (Instr.lookup 74 (.map (some b)) (kv k c) true).run Tryd.prog w = .ok (.tuple #[.int .i64 (((g k c).getD 0 : Nat) : Int), .bool (g k c).isSome]) w := by
  obtain ⟨es, clock, hb, _, h1, h2⟩ := h
  obtain ⟨l, hl⟩ := key_of k c hk hc
  have hz : (zeroValue 3).run Tryd.prog w = .ok (.int .i64 0) w := by kernel_rfl
  have hes : ∀ e ∈ es.toList, ∃ l, keyOf Tryd.prog 79 e.key = some l := by
    intro e he
    obtain ⟨k', c', n, hk', q1, q2, _⟩ := h1 e he
    rw [hk']; exact key_of k' c' q1 q2
  have hcheck := key_law.check w es.isEmpty hl
  rcases key_law.find w hl es.toList hes with ⟨hf, hno⟩ | ⟨j, e, hf, hj, he⟩
  · have hg : g k c = none := by
      cases hq : g k c with
      | none => rfl
      | some n => obtain ⟨e, hm, hk2⟩ := h2 k c n hq; exact absurd hk2 (hno e hm)
    rw [hg]
    simp [Instr.lookup, run_underlying Tryd.underlying74, MapKept.run_getObj_map hb, hcheck, hf, hz, Result.andThen]
  · obtain ⟨k', c', n, hk', _, _, hv, hg⟩ := h1 e (List.mem_of_getElem? hj)
    obtain ⟨rfl, rfl⟩ := kv_inj (hk'.symm.trans he)
    rw [hg]
    simp [Instr.lookup, run_underlying Tryd.underlying74, MapKept.run_getObj_map hb, hcheck, hf, hv, Result.andThen]
def updK (g : Nat → Nat → Option Nat) (k c n : Nat) : Nat → Nat → Option Nat := fun k' c' => if k' = k ∧ c' = c then some n else g k' c'
theorem MK.store {w : World} {b k c n m : Nat} {g : Nat → Nat → Option Nat} (h : MK w b m g) (hk : k ≤ 1000000) (hc : c < 256) (hg : g k c = none) :
    ∃ w', (Instr.mapUpdate 74 (.map (some b)) (kv k c) (.int .i64 (n : Int))).run Tryd.prog w = .ok () w' ∧ MK w' b (m + 1) (updK g k c n) ∧ Keeps (fun i => i = b) w w' := by
  have hlt := h.lt
  obtain ⟨es, clock, hb, hsz, h1, h2⟩ := h
  obtain ⟨l, hl⟩ := key_of k c hk hc
  have hes : ∀ e ∈ es.toList, ∃ l, keyOf Tryd.prog 79 e.key = some l := by
    intro e he
    obtain ⟨k', c', n, hk', q1, q2, _⟩ := h1 e he
    rw [hk']; exact key_of k' c' q1 q2
  have hcheck := key_law.check w false hl
  have hset : (w.heap.setIfInBounds b (Obj.map (es.push { key := kv k c, val := .int .i64 (n : Int), born := clock }) (clock + 1)))[b]? = some (.map (es.push { key := kv k c, val := .int .i64 (n : Int), born := clock }) (clock + 1)) := by
    rw [Array.getElem?_setIfInBounds]; simp [hlt]
  rcases key_law.find w hl es.toList hes with ⟨hf, hno⟩ | ⟨j, e, hf, hj, he⟩
  · refine ⟨ChangeMaps.setBlock w b (.map (es.push { key := kv k c, val := .int .i64 (n : Int), born := clock }) (clock + 1)), ?_, ⟨_, _, hset, by rw [Array.size_push]; omega, ?_, ?_⟩, ⟨rfl, rfl, rfl, by simp [ChangeMaps.setBlock], ?_⟩⟩
    · simp [Instr.mapUpdate, run_underlying Tryd.underlying74, MapKept.run_getObj_map hb, hcheck, hf, MapKept.run_setObj_map _ hb, Result.andThen, ChangeMaps.setBlock]
    · intro e he
      rw [Array.toList_push, List.mem_append, List.mem_singleton] at he
      rcases he with he | rfl
      · obtain ⟨k', c', n', q1, q2, q3, q4, q5⟩ := h1 e he
        refine ⟨k', c', n', q1, q2, q3, q4, ?_⟩
        unfold updK
        rw [if_neg]
        · exact q5
        · rintro ⟨rfl, rfl⟩
          exact hno e he q1
      · exact ⟨k, c, n, rfl, hk, hc, rfl, if_pos ⟨rfl, rfl⟩⟩
    · intro k' c' n' hq
      unfold updK at hq
      rw [Array.toList_push]
      by_cases hkc : k' = k ∧ c' = c
      · obtain ⟨rfl, rfl⟩ := hkc
        exact ⟨_, List.mem_append_right _ (List.mem_singleton.2 rfl), rfl⟩
      · rw [if_neg hkc] at hq
        obtain ⟨e, hm, hk2⟩ := h2 k' c' n' hq
        exact ⟨e, List.mem_append_left _ hm, hk2⟩
    · intro i hi hn
      show (w.heap.setIfInBounds b _)[i]? = _
      rw [Array.getElem?_setIfInBounds, if_neg (fun e => hn e.symm)]
  · obtain ⟨k', c', n', hk', _, _, hv, hg'⟩ := h1 e (List.mem_of_getElem? hj)
    obtain ⟨rfl, rfl⟩ := kv_inj (hk'.symm.trans he)
    rw [hg] at hg'; cases hg'
end Go.Proofs.YtdeiolagnheihaaDoor
