/- Pieces of bits in memory; the numbers that a writer and a reader go through; BitsTwice's walk. -/
import Derived.Test.YtkddbhngffbljaaDoorThree
import Derived.Test.YtkddbhngffbljaaDoorOpen
import Derived.StillTailTactics
namespace Go.Proofs.YtkddbhngffbljaaDoor
open Go.RowKit
open Go.ChangeShapes Go.WideShapes
set_option maxRecDepth 100000
structure Pc where
  n : Nat
  width : Int
  turn : Bool
  align : Bool
deriving Inhabited
def Pc.ok (x : Pc) : Prop := x.align = true ∨ (0 ≤ x.width ∧ x.width ≤ 32 ∧ x.n < 2 ^ x.width.toNat)
def cnt (p : Nat → Pc) : Nat → Nat
  | 0 => 0
  | i + 1 => if (p i).align = true then (cnt p i + 7) / 8 * 8 else cnt p i + (p i).width.toNat
def val (p : Nat → Pc) : Nat → Nat
  | 0 => 0
  | i + 1 => if (p i).align = true then val p i else val p i + (p i).n * 2 ^ cnt p i
theorem cnt_align {p : Nat → Pc} {i : Nat} (h : (p i).align = true) : cnt p (i + 1) = (cnt p i + 7) / 8 * 8 := by simp [cnt, h]
theorem val_align {p : Nat → Pc} {i : Nat} (h : (p i).align = true) : val p (i + 1) = val p i := by simp [val, h]
theorem cnt_put {p : Nat → Pc} {i : Nat} (h : (p i).align = false) : cnt p (i + 1) = cnt p i + (p i).width.toNat := by simp [cnt, h]
theorem val_put {p : Nat → Pc} {i : Nat} (h : (p i).align = false) : val p (i + 1) = val p i + (p i).n * 2 ^ cnt p i := by simp [val, h]
theorem cnt_mono (p : Nat → Pc) (i : Nat) : cnt p i ≤ cnt p (i + 1) := by
  by_cases h : (p i).align = true
  · rw [cnt_align h]; omega
  · rw [cnt_put (by simpa using h)]; omega
theorem cnt_le (p : Nat → Pc) {i j : Nat} (h : i ≤ j) : cnt p i ≤ cnt p j := by
  induction j with
  | zero => have : i = 0 := by omega
            subst this; exact Nat.le_refl _
  | succ j ih =>
    rcases Nat.lt_or_ge i (j + 1) with h1 | h1
    · exact Nat.le_trans (ih (by omega)) (cnt_mono p j)
    · have : i = j + 1 := by omega
      subst this; exact Nat.le_refl _
theorem cnt_bound (p : Nat → Pc) : ∀ i, (∀ j, j < i → (p j).ok) → cnt p i ≤ 39 * i := by
  intro i
  induction i with
  | zero => intro _; exact Nat.le_refl _
  | succ i ih =>
    intro h
    have h1 := ih fun j hj => h j (by omega)
    by_cases ha : (p i).align = true
    · rw [cnt_align ha]; omega
    · rw [cnt_put (by simpa using ha)]
      rcases h i (by omega) with q | ⟨q1, q2, _⟩
      · exact absurd q ha
      · omega
theorem val_mod (p : Nat → Pc) (i : Nat) (hi : val p i < 2 ^ cnt p i) : ∀ j, i ≤ j → val p j % 2 ^ cnt p i = val p i := by
  intro j
  induction j with
  | zero => intro h; have : i = 0 := by omega
            subst this; exact Nat.mod_eq_of_lt hi
  | succ j ih =>
    intro h
    rcases Nat.lt_or_ge i (j + 1) with h1 | h1
    · by_cases ha : (p j).align = true
      · rw [val_align ha]; exact ih (by omega)
      · rw [val_put (by simpa using ha)]
        have h2 := cnt_le p (show i ≤ j by omega)
        rw [show cnt p j = cnt p i + (cnt p j - cnt p i) by omega, Nat.pow_add, Nat.mul_left_comm, Nat.add_mul_mod_self_left]
        exact ih (by omega)
    · have : i = j + 1 := by omega
      subst this; exact Nat.mod_eq_of_lt hi
theorem val_lt (p : Nat → Pc) : ∀ i, (∀ j, j < i → (p j).ok) → val p i < 2 ^ cnt p i := by
  intro i
  induction i with
  | zero => intro _; exact (by decide : (0 : Nat) < 2 ^ 0)
  | succ i ih =>
    intro h
    have h1 := ih fun j hj => h j (by omega)
    by_cases ha : (p i).align = true
    · rw [val_align ha]; exact Nat.lt_of_lt_of_le h1 (Nat.pow_le_pow_right (by decide) (cnt_mono p i))
    · have ha' : (p i).align = false := by simpa using ha
      rcases h i (by omega) with q | ⟨q1, q2, q3⟩
      · exact absurd q ha
      · rw [val_put ha', cnt_put ha', Nat.pow_add, Nat.mul_comm (2 ^ cnt p i)]
        have : (p i).n * 2 ^ cnt p i + 2 ^ cnt p i ≤ 2 ^ (p i).width.toNat * 2 ^ cnt p i := by
          rw [← Nat.succ_mul]; exact Nat.mul_le_mul_right _ q3
        omega
theorem WAt.kept {S : Nat → Prop} {w w' : World} {B o V n : Nat} {v : Value} (h : WAt w B o v V n) (hk : Keeps S w w') (hB : ¬ S B) (hv : ∀ k, v.ownBlock = some k → ¬ S k) : WAt w' B o v V n := by
  have hlt : B < w.heap.size := World.block_lt_of_cell? w _ h.c0
  obtain ⟨l, h1, h2, h3⟩ := h.row
  exact ⟨(hk.cell hlt hB).trans h.c0, (hk.cell hlt hB).trans h.c1, (hk.frozen hlt hB).trans h.f0, (hk.frozen hlt hB).trans h.f1, ⟨l, h1, h2, ownsRow_kept h3 hk hv⟩, h.apart, h.lt⟩
/-- what stands at its place is what was put there -/
theorem val_get (p : Nat → Pc) (i m : Nat) (him : i < m) (ha : (p i).align = false) (hok : (p i).ok) (hi : val p i < 2 ^ cnt p i) :
    val p m / 2 ^ cnt p i % 2 ^ (p i).width.toNat = (p i).n := by
  rcases hok with q | ⟨q1, q2, q3⟩
  · rw [ha] at q; cases q
  have h1 : val p (i + 1) < 2 ^ cnt p (i + 1) := by
    rw [val_put ha, cnt_put ha, Nat.pow_add, Nat.mul_comm (2 ^ cnt p i)]
    have : (p i).n * 2 ^ cnt p i + 2 ^ cnt p i ≤ 2 ^ (p i).width.toNat * 2 ^ cnt p i := by
      rw [← Nat.succ_mul]; exact Nat.mul_le_mul_right _ q3
    omega
  have h2 := val_mod p (i + 1) h1 m him
  rw [cnt_put ha, val_put ha] at h2
  have h3 : val p m / 2 ^ cnt p i % 2 ^ (p i).width.toNat = val p m % 2 ^ (cnt p i + (p i).width.toNat) / 2 ^ cnt p i := by
    rw [Nat.pow_add, Nat.mod_mul_right_div_self]
  rw [h3, h2, Nat.add_mul_div_right _ _ (Nat.two_pow_pos _), Nat.div_eq_of_lt hi, Nat.zero_add]
/-- pieces as they lie in memory -/
def Pieces (w : World) (a : Addr) (len : Nat) (p : Nat → Pc) : Prop :=
  ∀ i, i < len → w.cell? (a.add (i * 4)) = some (.int .u32 ((p i).n : Int)) ∧ w.cell? ⟨(a.add (i * 4)).block, (a.add (i * 4)).off + 1, none⟩ = some (.int .i64 (p i).width) ∧ w.cell? ⟨(a.add (i * 4)).block, (a.add (i * 4)).off + 2, none⟩ = some (.bool (p i).turn) ∧ w.cell? ⟨(a.add (i * 4)).block, (a.add (i * 4)).off + 3, none⟩ = some (.bool (p i).align) ∧
    (p i).n < 4294967296 ∧ -9223372036854775808 ≤ (p i).width ∧ (p i).width ≤ 9223372036854775807
theorem Pieces.on {w w' : World} {a : Addr} {len : Nat} {p : Nat → Pc} {H : Nat} (h : Pieces w a len p) (hB : Below H w w') (ha : a.block < H) : Pieces w' a len p := by
  intro i hi
  have hb : (a.add (i * 4)).block < H := by unfold Addr.add; split <;> simpa using ha
  have e : ∀ q : Addr, q.block < H → w'.cell? q = w.cell? q := fun q hq => hB.cell hq
  rw [e _ hb, e _ (by exact hb), e _ (by exact hb), e _ (by exact hb)]
  exact h i hi
theorem twice_out (x : Option Addr) (len cap : Nat) (w : World) (h : 100 < len) (hlen : len ≤ maxLen) :
    Calls Tryd.prog 3 #[.slice x len cap] w fun e w' => e = .returned (.bool true) ∧ Ext w w' := by
  unfold maxLen at hlen
  go_enter Tryd.func3, Tryd.ntmps3
  go_wp2_with fail
  refine (three_any _).mono ?_
  rintro e w2 ⟨rfl, h2⟩
  go_wp2_with fail
  go_ret
  exact ⟨rfl, h2⟩
theorem twice_in (x : Option Addr) (len cap : Nat) (p : Nat → Pc) (w : World) (h : len ≤ 100) (hx : ∀ a, x = some a → 0 < len → a.block < w.heap.size ∧ Pieces w a len p) (hx0 : x = none → len = 0)
    (E : Addr) (hE : w.cell? ⟨1, 0, none⟩ = some (.iface 101 (.pointer (some E)))) :
    Calls Tryd.prog 3 #[.slice x len cap] w fun e w' => e = .returned (.bool true) ∧ Ext w w' := by
  go_enter Tryd.func3, Tryd.ntmps3
  go_wp2_with fail
  refine (three_any _).mono ?_
  rintro e w2 ⟨rfl, h2⟩
  go_wp2_with fail
  go_loopw [5] (fun v wr => ∃ (i : Nat) (u : Value), i ≤ len ∧ v = .int .i64 i ∧ Hid (∀ j, j < i → (p j).ok) ∧ Hid (WAt wr w2.heap.size 0 u (val p i) (cnt p i)) ∧ Hid (∀ k, u.ownBlock = some k → w.heap.size ≤ k) ∧ Hid (Below w.heap.size w wr)) (fun v _ => len - (intOf v).toNat)
  case atStart =>
    refine ⟨0, .slice none 0 0, by omega, rfl, Lib.hid (fun j hj => by omega), Lib.hid (WAt.fresh w2 _), Lib.hid (fun k hk => by cases hk), Lib.hid (h2.alloc _)⟩
  case round =>
    obtain ⟨i, u, hi, rfl, HP, HA, HU, HB⟩ := hrel
    by_cases hlt : i < len
    · obtain ⟨a, rfl⟩ : ∃ a, x = some a := by
        cases x with
        | none => have := hx0 rfl; omega
        | some a => exact ⟨a, rfl⟩
      obtain ⟨hab, hP⟩ := hx a rfl (by omega)
      obtain ⟨p0, p1, p2, p3, p4, p5, p6⟩ := hP.on HB.out hab i hlt
      by_cases hal : (p i).align = true
      · rw [hal] at p3
        have HAL := Lib.hid hal
        clear hal
        go_wp2_with fail
        refine (align_calls _ _ _ _ _ _ HA.out (by have := cnt_bound p i HP.out; omega)).mono ?_
        rintro e w3 ⟨rfl, hA2, hS2⟩
        have HA2 := Lib.hid hA2
        have HB2 := Lib.hid (HB.out.trans (hS2.below h2.size HU.out HB.out.size))
        clear hA2 hS2 p0 p1 p2 p3
        go_wp2_with fail
        go_roundw
        case rel =>
          refine ⟨i + 1, u, by omega, by go_num, ?_, ?_, HU, HB2⟩
          · intro j hj
            rcases Nat.lt_succ_iff_lt_or_eq.1 hj with q | rfl
            · exact HP.out j q
            · exact .inl HAL.out
          · have q := HA2.out
            rw [← cnt_align HAL.out, ← val_align HAL.out] at q; exact q
        case measure => simp [intOf]; omega
      · rw [show (p i).align = false by simpa using hal] at p3
        have HAL := Lib.hid (show (p i).align = false by simpa using hal)
        clear hal
        go_wp2_with fail
        go_still_tail 11, (by kernel_rfl)
        change wpList _ _ _ _ _ wr.drew
        have HA2 : Hid (WAt wr.drew w2.heap.size 0 u (val p i) (cnt p i)) := ⟨HA.out.c0, HA.out.c1, HA.out.f0, HA.out.f1, HA.out.row, HA.out.apart, HA.out.lt⟩
        have HB2 : Hid (Below w.heap.size w wr.drew) := HB.out.drew
        clear p0 p1 p2 p3
        generalize wr.drew = w3 at *
        by_cases hok : (p i).ok
        · have HOK := Lib.hid hok
          have HW : Hid (0 ≤ (p i).width ∧ (p i).width ≤ 32 ∧ (p i).n < 2 ^ (p i).width.toNat) := by
            rcases HOK.out with q | q
            · rw [HAL.out] at q; cases q
            · exact q
          clear hok
          go_wp2_with fail
          obtain ⟨w1, w32, wn⟩ := HW.out
          rw [show (p i).width = ((p i).width.toNat : Int) by omega]
          refine (put_in _ _ _ _ (p i).n (p i).width.toNat _ _ HA2.out (by omega) wn (by have := cnt_bound p i HP.out; omega)).mono ?_
          rintro e w4 ⟨rfl, u2, hA4, hS4⟩
          have HA4 := Lib.hid hA4
          have HB4 := Lib.hid (HB2.out.trans (hS4.below h2.size HU.out HB2.out.size))
          have HU4 := Lib.hid (hS4.own HU.out HB2.out.size)
          clear hA4 hS4 wn
          go_wp2_with fail
          go_roundw
          case rel =>
            refine ⟨i + 1, u2, by omega, by go_num, ?_, ?_, HU4, HB4⟩
            · intro j hj
              rcases Nat.lt_succ_iff_lt_or_eq.1 hj with q | rfl
              · exact HP.out j q
              · exact HOK.out
            · have q := HA4.out
              rw [← cnt_put HAL.out, ← val_put HAL.out] at q; exact q
          case measure => simp [intOf]; omega
        · have hE3 : w3.cell? ⟨1, 0, none⟩ = some (.iface 101 (.pointer (some E))) := (HB2.out.cell (World.block_lt_of_cell? _ _ hE)).trans hE
          have hno : ¬ (0 ≤ (p i).width ∧ (p i).width ≤ 32 ∧ (p i).n < 2 ^ (p i).width.toNat) := fun q => hok (.inr q)
          have HNO := Lib.hid hno
          clear hok hno
          go_wp2_with fail
          refine (put_out _ _ _ _ _ _ hE3 p4 p5 p6 HNO.out).mono ?_
          rintro e w4 ⟨rfl, rfl⟩
          go_wp2_with fail
          go_ret
          exact ⟨rfl, HB2.out⟩
    · obtain rfl : i = len := by omega
      go_wp2_with fail
      refine (text_calls _ _ _ _ _ _ HA.out).mono ?_
      rintro e w3 ⟨⟨l, hl, hV, rfl⟩, rfl⟩
      have hcb := cnt_bound p i HP.out
      have hsz : (⟨l.toArray⟩ : ByteArray).size = (cnt p i + 7) / 8 := by rw [← hl]; simp [ByteArray.size]
      have hss : (⟨l.toArray⟩ : ByteArray).size ≤ 1099511627776 := by omega
      have HV : Hid (Crc.num (⟨l.toArray⟩ : ByteArray).data.toList = val p i) := hV
      have h81 : cnt p i ≤ 8 * (⟨l.toArray⟩ : ByteArray).size := by omega
      have h82 : 8 * (⟨l.toArray⟩ : ByteArray).size < cnt p i + 8 := by omega
      clear hl hV hsz
      generalize (⟨l.toArray⟩ : ByteArray) = s at *
      go_wp2_with fail
      refine (newReader_calls _ _ hss).mono ?_
      rintro e w4 ⟨rfl, hR, hB4⟩
      have HA4 := Lib.hid (HA.out.kept (S := fun _ => False) hB4.keeps id (fun _ _ => id))
      have HB4 := Lib.hid (HB.out.trans (Below.mono hB4 HB.out.size))
      have HOW : Hid (∀ k, u.ownBlock = some k → k < wr.heap.size) := by
        intro k hk
        obtain ⟨l, _, _, h3⟩ := HA.out.row
        exact ownsRow_lt h3 hk
      have hw2r : w2.heap.size < wr.heap.size := World.block_lt_of_cell? wr _ HA.out.c0
      have hwR : w.heap.size ≤ wr.heap.size := HB.out.size
      have HR4 := Lib.hid hR
      clear hR hB4 HA HB
      go_wp2_with fail
      generalize wr.heap.size = R at *
      clear wr
      go_loopw [7, 8, 9] (fun v _ _ wx => ∃ (j : Nat), j ≤ i ∧ v = .int .i64 j ∧ Hid (RAt wx R 0 s (cnt p j)) ∧ Hid (WAt wx w2.heap.size 0 u (val p i) (cnt p i)) ∧ Hid (Below w.heap.size w wx)) (fun v _ _ _ => i - (intOf v).toNat)
      case atStart => exact ⟨0, by omega, rfl, HR4, HA4, HB4⟩
      case round =>
        obtain ⟨j, hj, rfl, HR, HA5, HB5⟩ := hrel
        by_cases hlt : j < i
        · obtain ⟨a, rfl⟩ : ∃ a, x = some a := by
            cases x with
            | none => have := hx0 rfl; omega
            | some a => exact ⟨a, rfl⟩
          obtain ⟨hab, hP⟩ := hx a rfl (by omega)
          obtain ⟨p0, p1, p2, p3, p4, p5, p6⟩ := hP.on HB5.out hab j hlt
          have hcj : cnt p (j + 1) ≤ cnt p i := cnt_le p hlt
          have hlen100 : i ≤ 100 := by omega
          have fin : ∀ wy : World, RStep wr wy R 0 → Hid (WAt wy w2.heap.size 0 u (val p i) (cnt p i)) ∧ Hid (Below w.heap.size w wy) := by
            intro wy hS
            refine ⟨Lib.hid (HA5.out.kept hS.keeps (by show ¬ _ = _; omega) (fun k hk => by have := HOW.out k hk; show ¬ _ = _; omega)), Lib.hid (HB5.out.trans (hS.below hwR HB5.out.size))⟩
          have FIN := Lib.hid fin
          clear fin
          by_cases hal : (p j).align = true
          · rw [hal] at p3
            have HAL := Lib.hid hal
            have hc1 : cnt p j ≤ 8 * s.size := by have := cnt_le p hj; omega
            clear hal
            go_wp2_with fail
            refine (ralign_calls _ _ _ _ _ HR.out hc1).mono ?_
            rintro e w5 ⟨rfl, hR5, hS5⟩
            obtain ⟨HA6, HB6⟩ := FIN.out _ hS5
            rw [← cnt_align HAL.out] at hR5
            have HR5 := Lib.hid hR5
            clear hR5 hS5 p0 p1 p2 p3
            go_wp2_with fail
            go_roundw
            case rel => exact ⟨j + 1, by omega, by go_num, HR5, HA6, HB6⟩
            case measure => simp [intOf]; omega
          · have HAL := Lib.hid (show (p j).align = false by simpa using hal)
            rw [show (p j).align = false by simpa using hal] at p3
            have HW : Hid (0 ≤ (p j).width ∧ (p j).width ≤ 32 ∧ (p j).n < 2 ^ (p j).width.toNat) := by
              rcases HP.out j hlt with q | q
              · rw [HAL.out] at q; cases q
              · exact q
            have HN := Lib.hid (val_get p j i hlt HAL.out (.inr HW.out) (val_lt p j fun k hk => HP.out k (by omega)))
            clear hal
            have hcp := cnt_put HAL.out
            have hc1 : cnt p j + (p j).width.toNat ≤ 8 * s.size := by omega
            have HCP := Lib.hid hcp
            clear hcp
            go_wp2_with fail
            obtain ⟨w1, w32, wn⟩ := HW.out
            rw [show (p j).width = ((p j).width.toNat : Int) by omega]
            refine (get_in _ _ _ (p j).width.toNat _ _ HR.out (by omega) hc1).mono ?_
            rintro e w5 ⟨he, hR5, hS5⟩
            rw [HV.out, HN.out] at he
            subst he
            obtain ⟨HA6, HB6⟩ := FIN.out _ hS5
            rw [← HCP.out] at hR5
            have HR5 := Lib.hid hR5
            clear hR5 hS5 p0 p1 p2 p3 wn
            obtain ⟨p0, p1, p2, p3, _, _, _⟩ := hP.on HB6.out hab j hlt
            go_wp2_with fail
            go_roundw
            case rel => exact ⟨j + 1, by omega, by go_num, HR5, HA6, HB6⟩
            case measure => simp [intOf]; omega
        · obtain rfl : j = i := by omega
          go_wp2_with fail
          refine (at_calls _ _ _ _ _ HR.out).mono ?_
          rintro e w5 ⟨rfl, rfl⟩
          go_wp2_with fail
          refine (len_calls _ _ _ _ _ _ HA5.out).mono ?_
          rintro e w5 ⟨rfl, rfl⟩
          go_wp2_with fail
          refine (left_calls _ _ _ _ _ HR.out).mono ?_
          rintro e w5 ⟨rfl, m, rfl⟩
          go_wp2_with fail
          go_ret
          exact ⟨by simp; omega, below_drewN HB5.out m⟩
theorem twice_any (x : Option Addr) (len cap : Nat) (p : Nat → Pc) (w : World) (hlen : len ≤ maxLen) (hx : ∀ a, x = some a → 0 < len → a.block < w.heap.size ∧ Pieces w a len p) (hx0 : x = none → len = 0)
    (E : Addr) (hE : w.cell? ⟨1, 0, none⟩ = some (.iface 101 (.pointer (some E)))) :
    Calls Tryd.prog 3 #[.slice x len cap] w fun e w' => e = .returned (.bool true) ∧ Ext w w' := by
  by_cases h100 : len ≤ 100
  · exact twice_in x len cap p w h100 hx hx0 E hE
  · exact twice_out x len cap w (by omega) hlen
/-- the argument, opened -/
theorem open_pieces {H : Type} {enc : TypeId × Value → H} {w : World} {base : Nat} {spare : Nat → Bool} {held : Bool} {v : Value} {d : DataW H} {pl : List MemPlace}
    (h : DataW.Trod enc Tryd.prog w base spare held 22 v d pl) (hv : ∃ x len cap, v = .slice x len cap) :
    ∃ (x : Option Addr) (len cap : Nat) (p : Nat → Pc), v = .slice x len cap ∧ len ≤ maxLen ∧ (x = none → len = 0) ∧ ∀ a, x = some a → 0 < len → a.block < w.heap.size ∧ Pieces w a len p := by
  obtain ⟨x, len, cap, rfl⟩ := hv
  obtain ⟨fuel, hf⟩ := h
  rcases open_recs Tryd.underlying22 Tryd.underlying30 (by kernel_rfl) (by kernel_rfl) hf with h0 | ⟨a, len', cap', hc, hl, hm, hx⟩
  · simp [Value.cells] at h0
    obtain ⟨rfl, rfl, rfl⟩ := h0
    exact ⟨none, 0, 0, fun _ => default, rfl, Nat.zero_le _, fun _ => rfl, fun a h => by cases h⟩
  · simp [Value.cells] at hc
    obtain ⟨rfl, rfl, rfl⟩ := hc
    have key : ∀ i, i < len → ∃ y : Pc, w.cell? (a.add (i * 4)) = some (.int .u32 (y.n : Int)) ∧ w.cell? ⟨(a.add (i * 4)).block, (a.add (i * 4)).off + 1, none⟩ = some (.int .i64 y.width) ∧ w.cell? ⟨(a.add (i * 4)).block, (a.add (i * 4)).off + 2, none⟩ = some (.bool y.turn) ∧ w.cell? ⟨(a.add (i * 4)).block, (a.add (i * 4)).off + 3, none⟩ = some (.bool y.align) ∧
        y.n < 4294967296 ∧ -9223372036854775808 ≤ y.width ∧ y.width ≤ 9223372036854775807 := by
      intro i hi
      obtain ⟨v0, y0, n0, c0, t0⟩ := hx i hi 0 _ rfl
      obtain ⟨v1, y1, n1, c1, t1⟩ := hx i hi 1 _ rfl
      obtain ⟨v2, y2, n2, c2, t2⟩ := hx i hi 2 _ rfl
      obtain ⟨v3, y3, n3, c3, t3⟩ := hx i hi 3 _ rfl
      obtain ⟨m0, e0, _, w0⟩ := DataW.trod_int Tryd.underlying28 t0
      obtain ⟨m1, e1, _, w1⟩ := DataW.trod_int Tryd.underlying3 t1
      obtain ⟨m2, e2, _⟩ := DataW.trod_bool Tryd.underlying4 t2
      obtain ⟨m3, e3, _⟩ := DataW.trod_bool Tryd.underlying4 t3
      have b0 := bounds_u32 w0
      have b1 := bounds_i64 w1
      simp only [List.cons.injEq, and_true] at e0 e1 e2 e3
      subst e0 e1 e2 e3
      refine ⟨⟨m0.toNat, m1, m2, m3⟩, ?_, cell_add (by decide) c1, cell_add (by decide) c2, cell_add (by decide) c3, by show m0.toNat < _; omega, b1.1, b1.2⟩
      show _ = some (Value.int .u32 (m0.toNat : Int))
      rw [show (m0.toNat : Int) = m0 by omega]
      have : (a.add (i * 4)).add 0 = a.add (i * 4) := by simp [Addr.add]
      rw [← this]; exact c0
    obtain ⟨p, hp⟩ := Go.Deep.choose_lt key
    refine ⟨some a, len, cap, p, rfl, by omega, (fun h => by cases h), fun a' h hpos => ?_⟩
    injection h with h; subst h
    refine ⟨?_, hp⟩
    have q := World.block_lt_of_cell? w _ (hp 0 hpos).1
    simpa [Addr.add] using q
end Go.Proofs.YtkddbhngffbljaaDoor
