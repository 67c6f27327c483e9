/- An argument that is a row of chunks, opened; how long its texts may be. -/
import Derived.Test.YtkfjcgcgfdibaaaDoorCk
import Derived.Test.YtkfjcgcgfdibaaaDoorOpen
import Derived.Lib.SmallJoins
import Derived.SizedLaws
namespace Go.Proofs.YtkfjcgcgfdibaaaDoor
open Go.ChangeShapes Go.WideShapes Go.RowKit Go.Deep Go.Joins
set_option maxRecDepth 100000
theorem wAll_mem {H : Type} {P : Program} {e : TypeId} : ∀ {l : List (DataW H)} {d : DataW H}, d ∈ l → ∀ n ∈ d.weights P e, n ∈ DataW.weightsAll P e l := by
  intro l
  induction l with
  | nil => intro d h; cases h
  | cons x l ih =>
    intro d h n hn
    rw [DataW.weightsAll]
    rcases List.mem_cons.1 h with rfl | h
    · exact List.mem_append_left _ hn
    · exact List.mem_append_right _ (ih h n hn)
theorem open_cks {H : Type} {enc : TypeId × Value → H} {w : World} {base : Nat} {spare : Nat → Bool} {held : Bool} {v : Value} {d : DataW H} {pl : List MemPlace}
    (h : DataW.Trod enc Tryd.prog w base spare held 68 v d pl) (hv : ∃ x len cap, v = .slice x len cap) :
    ∃ (a : Option Addr) (cap : Nat) (L : List Ck), v = .slice a L.length cap ∧ L.length ≤ maxLen ∧ Cks w a L ∧ (∀ c ∈ L, c.k.size ≤ maxLen ∧ c.d.size ∈ d.weights Tryd.prog 68) := by
  obtain ⟨x, len, cap, rfl⟩ := hv
  obtain ⟨fuel, hf⟩ := h
  have he := Tryd.underlying75
  have hC : Tryd.prog.cellsOf 75 = 2 := by kernel_rfl
  rcases open_slice Tryd.underlying68 hf with ⟨h0, _⟩ | ⟨a, n, c, m, k, D, Pl, h0, _, hl, hm, hmm, hx, hi⟩
  · simp [Value.cells] at h0
    obtain ⟨rfl, rfl, rfl⟩ := h0
    exact ⟨none, 0, [], rfl, Nat.zero_le _, ⟨fun _ => rfl, fun a h => by cases h⟩, fun c h => by cases h⟩
  · simp [Value.cells] at h0
    obtain ⟨rfl, rfl, rfl⟩ := h0
    have hd : d = .slice ((List.range len).map D) ((List.range (m - len)).map fun j => D (len + j)) := congrArg Prod.fst hx
    have key : ∀ i, i < len → ∃ p : Ck, (w.cell? (a.add (i * 2)) = some (.string p.k) ∧ w.cell? ⟨(a.add (i * 2)).block, (a.add (i * 2)).off + 1, none⟩ = some (.string p.d)) ∧ p.k.size ≤ maxLen ∧ p.d.size ∈ d.weights Tryd.prog 68 := by
      intro i hlt
      have him : i < m := by rw [hmm]; split <;> omega
      obtain ⟨cs', hc, hr⟩ := hi i him
      obtain ⟨xs, q, _, hag, _, hxl, hxx⟩ := DataW.trod_struct he hr
      obtain ⟨_, hcl, hat⟩ := World.cells?_some hc
      rw [hC] at hcl hat
      obtain ⟨x0, x1, rfl⟩ : ∃ x0 x1, xs = [x0, x1] := by
        match xs, hxl with
        | [x0, x1], _ => exact ⟨x0, x1, rfl⟩
      obtain ⟨v0, v1, rfl⟩ : ∃ v0 v1, cs' = [v0, v1] := by
        match cs', hcl with
        | [v0, v1], _ => exact ⟨v0, v1, rfl⟩
      have h0 := hxx 0 _ rfl
      have h1 := hxx 1 _ rfl
      simp only [List.getElem?_cons_zero, List.getElem?_cons_succ] at h0 h1
      obtain ⟨s0, e0, y0, z0⟩ := DataW.trod_string Tryd.underlying9 h0
      obtain ⟨s1, e1, y1, z1⟩ := DataW.trod_string Tryd.underlying9 h1
      injection e0 with e0 _
      injection e1 with e1 _
      subst e0 e1
      refine ⟨⟨s0, s1⟩, ⟨(hat 0 (by omega)).trans rfl, cell_add (by decide) ((hat 1 (by omega)).trans rfl)⟩, z0, ?_⟩
      rw [hd]
      simp only [DataW.weights, Tryd.underlying68]
      refine List.mem_cons_of_mem _ (List.mem_append_left _ (wAll_mem (d := D i) (List.mem_map.2 ⟨i, List.mem_range.2 hlt, rfl⟩) _ ?_))
      have hDi : D i = .agg [x0.1, x1.1] := congrArg Prod.fst hag
      rw [hDi, y0, y1]
      simp only [DataW.weights, he]
      simp [DataW.weightsEach, DataW.weights]
    haveI : Inhabited Ck := ⟨⟨⟨#[]⟩, ⟨#[]⟩⟩⟩
    obtain ⟨ck, hck⟩ := Go.Deep.choose_lt (α := Ck) key
    refine ⟨some a, cap, (List.range len).map ck, by rw [List.length_map, List.length_range], by rw [List.length_map, List.length_range]; omega, ⟨(fun h => by cases h), fun a' ha i c hi => ?_⟩, fun c hc => ?_⟩
    · injection ha with ha
      subst ha
      have hlt : i < len := by
        have := (List.getElem?_eq_some_iff.1 hi).1
        simpa using this
      have : c = ck i := by simpa [hlt, eq_comm] using hi
      subst this
      exact (hck i hlt).1
    · obtain ⟨i, hi, rfl⟩ := List.mem_map.1 hc
      exact (hck i (List.mem_range.1 hi)).2
end Go.Proofs.YtkfjcgcgfdibaaaDoor
