/- BitsPut's walk. -/
import Derived.Test.YtkddbhngffbljaaDoorTurned
import Derived.Test.YtkddbhngffbljaaDoorRefPacked
import Derived.Test.YtkddbhngffbljaaDoorTwice
import Derived.Test.YtkddbhngffbljaaDoorCoded1
namespace Go.Proofs.YtkddbhngffbljaaDoor
open Go.RowKit
set_option maxRecDepth 100000
theorem puts_out (x : Option Addr) (len cap : Nat) (w : World) (h : 100 < len) (hlen : len ≤ maxLen) :
    Calls Tryd.prog 4 #[.slice x len cap] w fun e w' => e = .returned (.bool true) ∧ Ext w w' := by
  unfold maxLen at hlen
  go_enter Tryd.func4, Tryd.ntmps4
  go_wp2_with fail
  refine (three_any _).mono ?_
  rintro e w2 ⟨rfl, h2⟩
  go_wp2_with fail
  go_ret
  exact ⟨rfl, h2⟩
/-- bits 0 up to a whole byte -/
def padN (n : Nat) : Nat := (n + 7) / 8 * 8
theorem pad_val (L : List Bool) (k : Nat) : Bts.val (L ++ List.replicate k false) = Bts.val L := by
  rw [Bts.val_append]
  have e : Bts.val (List.replicate k false) = 0 := by induction k with | zero => rfl | succ k ih => simp [List.replicate_succ, Bts.val, ih]
  rw [e]; simp
structure PSt (w wr : World) (Bw : Nat) (u : Value) (L : List Bool) (i : Nat) : Prop where
  at_ : WAt wr Bw 0 u (Bts.val L) L.length
  len : L.length ≤ 39 * i
  own : ∀ k, u.ownBlock = some k → w.heap.size ≤ k
  ext : Ext w wr
/-- what a writer's step leaves of the piece that lies behind it -/
theorem WStep.piece {w w' : World} {B c : Nat} {u v : Value} {V n : Nat} (h : WStep w w' B 0 u v) (_hA : WAt w B 0 u V n) (hc : c < w.heap.size) (hB : B ≠ c) (ho : u.ownBlock ≠ some c) (j : Nat) : w'.cell? ⟨c, j, none⟩ = w.cell? ⟨c, j, none⟩ :=
  h.keeps.cell (p := ⟨c, j, none⟩) hc (by rintro (e | e); exact hB e.symm; exact ho e)
theorem own_ne {w : World} {B V n : Nat} {u : Value} (hA : WAt w B 0 u V n) : u.ownBlock ≠ some w.heap.size := by
  intro e
  obtain ⟨l, _, _, h3⟩ := hA.row
  exact Nat.lt_irrefl _ (ownsRow_lt h3 e)
set_option maxHeartbeats 4000000 in
theorem puts_in (x : Option Addr) (len cap : Nat) (p : Nat → Pc) (w : World) (E : Nat → Addr) (hS : Errs w E) (h : len ≤ 100) (hx : ∀ a, x = some a → 0 < len → a.block < w.heap.size ∧ Pieces w a len p) (hx0 : x = none → len = 0) :
    Calls Tryd.prog 4 #[.slice x len cap] w fun e w' => e = .returned (.bool true) ∧ Ext w w' := by
  have HS := Lib.hid hS
  clear hS
  go_enter Tryd.func4, Tryd.ntmps4
  go_wp2_with fail
  refine (three_any _).mono ?_
  rintro e w2 ⟨rfl, h2⟩
  have H2 := Lib.hid h2
  have hz2 : w.heap.size ≤ w2.heap.size := h2.size
  clear h2
  go_wp2_with fail
  rw [show ({ data := #[] } : ByteArray) = bs [] from bs_nil]
  go_loopw [5, 6] (fun o v wr => ∃ (i : Nat) (u : Value) (L : List Bool), i ≤ len ∧ v = .int .i64 i ∧ o = .string (bs L) ∧ Hid (PSt w wr w2.heap.size u L i)) (fun _ v _ => len - (intOf v).toNat)
  case atStart =>
    refine ⟨0, .slice none 0 0, [], by omega, rfl, rfl, Lib.hid ⟨WAt.fresh w2 _, by simp, (fun k hk => by cases hk), H2.out.alloc _⟩⟩
  case round =>
    obtain ⟨i, u, L, hi, rfl, rfl, HP⟩ := hrel
    by_cases hlt : i < len
    · obtain ⟨a, rfl⟩ : ∃ a, x = some a := by
        cases x with
        | none => have := hx0 rfl; omega
        | some a => exact ⟨a, rfl⟩
      obtain ⟨hab, hP⟩ := hx a rfl (by omega)
      obtain ⟨p0, p1, p2, p3, p4, p5, p6⟩ := hP.on HP.out.ext hab i hlt
      have hll := HP.out.len
      have hBw : w2.heap.size < wr.heap.size := World.block_lt_of_cell? wr _ HP.out.at_.c0
      have hsz : (bs L).size ≤ 3900 := by rw [bs_size]; omega
      by_cases hal : (p i).align = true
      · rw [hal] at p3
        have HA := Lib.hid (HP.out.at_.kept (S := fun _ => False) (((Ext.refl wr).alloc (.cells #[.int .u32 ((p i).n : Int), .int .i64 (p i).width, .bool (p i).turn, .bool true] 30)).keeps) id (fun _ _ => id))
        clear hal
        go_wp2_with fail
        refine (align_calls _ _ _ _ _ _ HA.out (by omega)).mono ?_
        rintro e w3 ⟨rfl, hA2, hS2⟩
        have HA2 := Lib.hid hA2
        have HB2 : Hid (Ext w w3) := Lib.hid (Below.trans (HP.out.ext.alloc _) (hS2.below hz2 HP.out.own (HP.out.ext.alloc _).size))
        clear hA2 hS2 p0 p1 p2 p3
        have HP2 := Lib.hid hP
        clear hP
        go_wp2_with fail
        go_loop [5] (fun o => ∃ k : Nat, L.length + k ≤ (L.length + 7) / 8 * 8 ∧ o = .string (bs (L ++ List.replicate k false))) (fun o => match o with | .string s => 5000 - s.size | _ => 0)
        case atStart => exact ⟨0, by omega, by simp⟩
        case round =>
          obtain ⟨k, hk, rfl⟩ := hrel
          have hzM : (bs (L ++ List.replicate k false)).size = L.length + k := by rw [bs_size]; simp
          have hzl : (bs (L ++ List.replicate k false)).size ≤ 4000 := by omega
          have HM : Hid (bs (L ++ List.replicate k false) ++ ⟨#[48]⟩ = bs (L ++ List.replicate (k + 1) false)) := Lib.hid (by
            rw [show (⟨#[48]⟩ : ByteArray) = bs [false] from bs_one false, bs_append, List.replicate_succ', List.append_assoc])
          have HZN : Hid ((bs (L ++ List.replicate (k + 1) false)).size = L.length + (k + 1)) := Lib.hid (by rw [bs_size]; simp)
          by_cases hm : 0 < (L.length + k) % 8
          · have t1 : decide ((0 : Int) < ((bs (L ++ List.replicate k false)).size : Int) % 8) = true := by rw [decide_eq_true_iff, hzM]; omega
            have HZM := Lib.hid hzM
            clear hzM
            go_wp2_with fail
            rw [HM.out]
            go_round
            case rel => exact ⟨k + 1, by omega, rfl⟩
            case measure => have := HZM.out; have := HZN.out; simp only; omega
          · have t1 : decide ((0 : Int) < ((bs (L ++ List.replicate k false)).size : Int) % 8) = false := by rw [decide_eq_false_iff_not, hzM]; omega
            have HZM := Lib.hid hzM
            clear hzM
            go_wp2_with fail
            go_roundw
            case rel =>
              refine ⟨i + 1, u, L ++ List.replicate k false, by omega, by go_num, rfl, Lib.hid ⟨?_, ?_, HP.out.own, HB2.out⟩⟩
              · rw [pad_val]
                have e : (L ++ List.replicate k false).length = (L.length + 7) / 8 * 8 := by simp; omega
                rw [e]; exact HA2.out
              · simp; omega
            case measure => simp [intOf]; omega
      · rw [show (p i).align = false by simpa using hal] at p3
        obtain ⟨y, hy⟩ : ∃ y, (p i).n = y := ⟨_, rfl⟩
        obtain ⟨wd, hwd⟩ : ∃ y, (p i).width = y := ⟨_, rfl⟩
        obtain ⟨tb, htb⟩ : ∃ y, (p i).turn = y := ⟨_, rfl⟩
        rw [hy] at p0 p4
        rw [hwd] at p1 p5 p6
        rw [htb] at p2
        clear hal hy hwd htb hP
        have X3 : Hid (Ext w (wr.alloc (.cells #[.int .u32 (y : Int), .int .i64 wd, .bool tb, .bool false] 30))) := Lib.hid (HP.out.ext.alloc _)
        have HA : Hid (WAt (wr.alloc (.cells #[.int .u32 (y : Int), .int .i64 wd, .bool tb, .bool false] 30)) w2.heap.size 0 u (Bts.val L) L.length) := Lib.hid (HP.out.at_.kept (S := fun _ => False) ((Ext.refl wr).alloc _).keeps id (fun _ _ => id))
        have HE3 := Lib.hid ((HS.out.ext X3.out).var 1 (by decide))
        by_cases hok : 0 ≤ wd ∧ wd ≤ 32 ∧ y < 2 ^ wd.toNat
        · obtain ⟨k, rfl⟩ : ∃ k : Nat, wd = k := ⟨wd.toNat, by omega⟩
          have HY : Hid (y < 2 ^ k) := Lib.hid (by simpa using hok.2.2)
          have hk : k ≤ 32 := by omega
          have t1 : decide ((0 : Int) < (y : Int) / 2 ^ k) = false := by
            rw [decide_eq_false_iff_not, show ((y : Int) / 2 ^ k) = ((y / 2 ^ k : Nat) : Int) by simp, Nat.div_eq_of_lt HY.out]; decide
          clear hok
          rcases Nat.lt_or_ge k 32 with q | q
          · skip
            cases tb with
            | true =>
              go_wp2_with fail
              refine (turned_in _ _ _ _ y k _ _ HA.out (by omega) HY.out (by omega)).mono ?_
              rintro e w3 ⟨rfl, u3, hA3, hS3⟩
              have HA3 : Hid (WAt w3 w2.heap.size 0 u3 (Bts.val (L ++ Bts.high y k)) (L ++ Bts.high y k).length) := Lib.hid (by
                rw [Bts.val_append, List.length_append, Bts.high_length]
                exact hA3)
              have X4 : Hid (Ext w w3) := Lib.hid (Below.trans X3.out (hS3.below hz2 HP.out.own X3.out.size))
              have HU3 := Lib.hid (hS3.own HP.out.own X3.out.size)
              have q0 : w3.cell? ⟨wr.heap.size, 0, none⟩ = some (.int .u32 (y : Int)) := (hS3.piece HA.out (by simp) (by omega) (own_ne HP.out.at_) 0).trans (by simp)
              have q1 : w3.cell? ⟨wr.heap.size, 1, none⟩ = some (.int .i64 (k : Int)) := (hS3.piece HA.out (by simp) (by omega) (own_ne HP.out.at_) 1).trans (by simp)
              have hz3 : wr.heap.size < w3.heap.size := World.block_lt_of_cell? w3 _ q0
              clear hA3 hS3
              have Q := Lib.hid (And.intro q0 q1)
              clear q0 q1
              go_wp2_with fail
              refine (coded_any _ E (HS.out.ext X4.out) _ 0 (-1) 0 .nil).mono ?_
              rintro e w4 ⟨he, h4⟩
              obtain rfl : e = .returned (.bool true) := by rw [he]; exact ret_bool (by decide)
              have X5 := Lib.hid (X4.out.trans h4)
              have HA4 := Lib.hid (HA3.out.kept (S := fun _ => False) h4.keeps id (fun _ _ => id))
              have q0 : w4.cell? ⟨wr.heap.size, 0, none⟩ = some (.int .u32 (y : Int)) := (h4.cell (p := ⟨wr.heap.size, 0, none⟩) hz3).trans Q.out.1
              have q1 : w4.cell? ⟨wr.heap.size, 1, none⟩ = some (.int .i64 (k : Int)) := (h4.cell (p := ⟨wr.heap.size, 1, none⟩) hz3).trans Q.out.2
              clear he h4
              go_wp2_with fail
              refine (high_any y k p4 (by omega) _).mono ?_
              rintro e w5 ⟨rfl, h5⟩
              have X6 := Lib.hid (X5.out.trans h5)
              have HA5 := Lib.hid (HA4.out.kept (S := fun _ => False) h5.keeps id (fun _ _ => id))
              have hszb : (bs (Bts.high y k)).size ≤ 32 := by rw [bs_size, Bts.high_length]; omega
              clear h5 q0 q1
              go_wp2_with fail
              rw [bs_append]
              refine (len_calls _ _ _ _ _ _ HA5.out).mono ?_
              rintro e w6 ⟨rfl, rfl⟩
              have hsz2 : ((bs (L ++ Bts.high y k)).size : Int) = ((L ++ Bts.high y k).length : Int) := by rw [bs_size]
              go_wp2_with fail
              go_roundw
              case rel => exact ⟨i + 1, u3, L ++ Bts.high y k, by omega, by go_num, rfl, Lib.hid ⟨HA5.out, by rw [List.length_append, Bts.high_length]; omega, HU3.out, X6.out⟩⟩
              case measure => simp [intOf]; omega
            | false =>
              go_wp2_with fail
              refine (put_in _ _ _ _ y k _ _ HA.out (by omega) HY.out (by omega)).mono ?_
              rintro e w3 ⟨rfl, u3, hA3, hS3⟩
              have HA3 : Hid (WAt w3 w2.heap.size 0 u3 (Bts.val (L ++ Bts.low y k)) (L ++ Bts.low y k).length) := Lib.hid (by
                rw [Bts.val_append, List.length_append, Bts.low_length, Bts.val_low, Nat.mod_eq_of_lt HY.out]
                exact hA3)
              have X4 : Hid (Ext w w3) := Lib.hid (Below.trans X3.out (hS3.below hz2 HP.out.own X3.out.size))
              have HU3 := Lib.hid (hS3.own HP.out.own X3.out.size)
              have q0 : w3.cell? ⟨wr.heap.size, 0, none⟩ = some (.int .u32 (y : Int)) := (hS3.piece HA.out (by simp) (by omega) (own_ne HP.out.at_) 0).trans (by simp)
              have q1 : w3.cell? ⟨wr.heap.size, 1, none⟩ = some (.int .i64 (k : Int)) := (hS3.piece HA.out (by simp) (by omega) (own_ne HP.out.at_) 1).trans (by simp)
              have hz3 : wr.heap.size < w3.heap.size := World.block_lt_of_cell? w3 _ q0
              clear hA3 hS3
              have Q := Lib.hid (And.intro q0 q1)
              clear q0 q1
              go_wp2_with fail
              refine (coded_any _ E (HS.out.ext X4.out) _ 0 (-1) 0 .nil).mono ?_
              rintro e w4 ⟨he, h4⟩
              obtain rfl : e = .returned (.bool true) := by rw [he]; exact ret_bool (by decide)
              have X5 := Lib.hid (X4.out.trans h4)
              have HA4 := Lib.hid (HA3.out.kept (S := fun _ => False) h4.keeps id (fun _ _ => id))
              have q0 : w4.cell? ⟨wr.heap.size, 0, none⟩ = some (.int .u32 (y : Int)) := (h4.cell (p := ⟨wr.heap.size, 0, none⟩) hz3).trans Q.out.1
              have q1 : w4.cell? ⟨wr.heap.size, 1, none⟩ = some (.int .i64 (k : Int)) := (h4.cell (p := ⟨wr.heap.size, 1, none⟩) hz3).trans Q.out.2
              clear he h4
              go_wp2_with fail
              refine (low_any y k p4 (by omega) _).mono ?_
              rintro e w5 ⟨rfl, h5⟩
              have X6 := Lib.hid (X5.out.trans h5)
              have HA5 := Lib.hid (HA4.out.kept (S := fun _ => False) h5.keeps id (fun _ _ => id))
              have hszb : (bs (Bts.low y k)).size ≤ 32 := by rw [bs_size, Bts.low_length]; omega
              clear h5 q0 q1
              go_wp2_with fail
              rw [bs_append]
              refine (len_calls _ _ _ _ _ _ HA5.out).mono ?_
              rintro e w6 ⟨rfl, rfl⟩
              have hsz2 : ((bs (L ++ Bts.low y k)).size : Int) = ((L ++ Bts.low y k).length : Int) := by rw [bs_size]
              go_wp2_with fail
              go_roundw
              case rel => exact ⟨i + 1, u3, L ++ Bts.low y k, by omega, by go_num, rfl, Lib.hid ⟨HA5.out, by rw [List.length_append, Bts.low_length]; omega, HU3.out, X6.out⟩⟩
              case measure => simp [intOf]; omega
          · obtain rfl : k = 32 := by omega
            cases tb with
            | true =>
              go_wp2_with fail
              refine (turned_in _ _ _ _ y 32 _ _ HA.out (by decide) HY.out (by omega)).mono ?_
              rintro e w3 ⟨rfl, u3, hA3, hS3⟩
              have HA3 : Hid (WAt w3 w2.heap.size 0 u3 (Bts.val (L ++ Bts.high y 32)) (L ++ Bts.high y 32).length) := Lib.hid (by
                rw [Bts.val_append, List.length_append, Bts.high_length]
                exact hA3)
              have X4 : Hid (Ext w w3) := Lib.hid (Below.trans X3.out (hS3.below hz2 HP.out.own X3.out.size))
              have HU3 := Lib.hid (hS3.own HP.out.own X3.out.size)
              have q0 : w3.cell? ⟨wr.heap.size, 0, none⟩ = some (.int .u32 (y : Int)) := (hS3.piece HA.out (by simp) (by omega) (own_ne HP.out.at_) 0).trans (by simp)
              have q1 : w3.cell? ⟨wr.heap.size, 1, none⟩ = some (.int .i64 32) := (hS3.piece HA.out (by simp) (by omega) (own_ne HP.out.at_) 1).trans (by simp)
              have hz3 : wr.heap.size < w3.heap.size := World.block_lt_of_cell? w3 _ q0
              clear hA3 hS3
              have Q := Lib.hid (And.intro q0 q1)
              clear q0 q1
              go_wp2_with fail
              refine (coded_any _ E (HS.out.ext X4.out) _ 0 (-1) 0 .nil).mono ?_
              rintro e w4 ⟨he, h4⟩
              obtain rfl : e = .returned (.bool true) := by rw [he]; exact ret_bool (by decide)
              have X5 := Lib.hid (X4.out.trans h4)
              have HA4 := Lib.hid (HA3.out.kept (S := fun _ => False) h4.keeps id (fun _ _ => id))
              have q0 : w4.cell? ⟨wr.heap.size, 0, none⟩ = some (.int .u32 (y : Int)) := (h4.cell (p := ⟨wr.heap.size, 0, none⟩) hz3).trans Q.out.1
              have q1 : w4.cell? ⟨wr.heap.size, 1, none⟩ = some (.int .i64 32) := (h4.cell (p := ⟨wr.heap.size, 1, none⟩) hz3).trans Q.out.2
              clear he h4
              go_wp2_with fail
              refine (high_any y 32 p4 (by omega) _).mono ?_
              rintro e w5 ⟨rfl, h5⟩
              have X6 := Lib.hid (X5.out.trans h5)
              have HA5 := Lib.hid (HA4.out.kept (S := fun _ => False) h5.keeps id (fun _ _ => id))
              have hszb : (bs (Bts.high y 32)).size ≤ 32 := by rw [bs_size, Bts.high_length]; omega
              clear h5 q0 q1
              go_wp2_with fail
              rw [bs_append]
              refine (len_calls _ _ _ _ _ _ HA5.out).mono ?_
              rintro e w6 ⟨rfl, rfl⟩
              have hsz2 : ((bs (L ++ Bts.high y 32)).size : Int) = ((L ++ Bts.high y 32).length : Int) := by rw [bs_size]
              go_wp2_with fail
              go_roundw
              case rel => exact ⟨i + 1, u3, L ++ Bts.high y 32, by omega, by go_num, rfl, Lib.hid ⟨HA5.out, by rw [List.length_append, Bts.high_length]; omega, HU3.out, X6.out⟩⟩
              case measure => simp [intOf]; omega
            | false =>
              go_wp2_with fail
              refine (put_in _ _ _ _ y 32 _ _ HA.out (by decide) HY.out (by omega)).mono ?_
              rintro e w3 ⟨rfl, u3, hA3, hS3⟩
              have HA3 : Hid (WAt w3 w2.heap.size 0 u3 (Bts.val (L ++ Bts.low y 32)) (L ++ Bts.low y 32).length) := Lib.hid (by
                rw [Bts.val_append, List.length_append, Bts.low_length, Bts.val_low, Nat.mod_eq_of_lt HY.out]
                exact hA3)
              have X4 : Hid (Ext w w3) := Lib.hid (Below.trans X3.out (hS3.below hz2 HP.out.own X3.out.size))
              have HU3 := Lib.hid (hS3.own HP.out.own X3.out.size)
              have q0 : w3.cell? ⟨wr.heap.size, 0, none⟩ = some (.int .u32 (y : Int)) := (hS3.piece HA.out (by simp) (by omega) (own_ne HP.out.at_) 0).trans (by simp)
              have q1 : w3.cell? ⟨wr.heap.size, 1, none⟩ = some (.int .i64 32) := (hS3.piece HA.out (by simp) (by omega) (own_ne HP.out.at_) 1).trans (by simp)
              have hz3 : wr.heap.size < w3.heap.size := World.block_lt_of_cell? w3 _ q0
              clear hA3 hS3
              have Q := Lib.hid (And.intro q0 q1)
              clear q0 q1
              go_wp2_with fail
              refine (coded_any _ E (HS.out.ext X4.out) _ 0 (-1) 0 .nil).mono ?_
              rintro e w4 ⟨he, h4⟩
              obtain rfl : e = .returned (.bool true) := by rw [he]; exact ret_bool (by decide)
              have X5 := Lib.hid (X4.out.trans h4)
              have HA4 := Lib.hid (HA3.out.kept (S := fun _ => False) h4.keeps id (fun _ _ => id))
              have q0 : w4.cell? ⟨wr.heap.size, 0, none⟩ = some (.int .u32 (y : Int)) := (h4.cell (p := ⟨wr.heap.size, 0, none⟩) hz3).trans Q.out.1
              have q1 : w4.cell? ⟨wr.heap.size, 1, none⟩ = some (.int .i64 32) := (h4.cell (p := ⟨wr.heap.size, 1, none⟩) hz3).trans Q.out.2
              clear he h4
              go_wp2_with fail
              refine (low_any y 32 p4 (by omega) _).mono ?_
              rintro e w5 ⟨rfl, h5⟩
              have X6 := Lib.hid (X5.out.trans h5)
              have HA5 := Lib.hid (HA4.out.kept (S := fun _ => False) h5.keeps id (fun _ _ => id))
              have hszb : (bs (Bts.low y 32)).size ≤ 32 := by rw [bs_size, Bts.low_length]; omega
              clear h5 q0 q1
              go_wp2_with fail
              rw [bs_append]
              refine (len_calls _ _ _ _ _ _ HA5.out).mono ?_
              rintro e w6 ⟨rfl, rfl⟩
              have hsz2 : ((bs (L ++ Bts.low y 32)).size : Int) = ((L ++ Bts.low y 32).length : Int) := by rw [bs_size]
              go_wp2_with fail
              go_roundw
              case rel => exact ⟨i + 1, u3, L ++ Bts.low y 32, by omega, by go_num, rfl, Lib.hid ⟨HA5.out, by rw [List.length_append, Bts.low_length]; omega, HU3.out, X6.out⟩⟩
              case measure => simp [intOf]; omega
        · have HNO := Lib.hid hok
          have hcase : wd < 0 ∨ 32 < wd ∨ (0 ≤ wd ∧ wd < 32 ∧ 2 ^ wd.toNat ≤ y) := by
            rcases Int.lt_or_le wd 0 with q | q
            · exact .inl q
            · rcases Int.lt_or_le 32 wd with q2 | q2
              · exact .inr (.inl q2)
              · rcases Int.lt_or_le wd 32 with q3 | q3
                · exact .inr (.inr ⟨q, q3, by rcases Nat.lt_or_ge y (2 ^ wd.toNat) with q4 | q4; exact absurd ⟨q, q2, q4⟩ hok; exact q4⟩)
                · obtain rfl : wd = 32 := by omega
                  exact absurd ⟨q, q2, p4⟩ hok
          clear hok
          rcases hcase with q | q | ⟨q1, q2, q3⟩
          · cases tb with
            | true =>
              go_wp2_with fail
              refine (turned_out _ _ y _ _ _ HE3.out p4 p5 p6 HNO.out).mono ?_
              rintro e w3 ⟨rfl, rfl⟩
              go_wp2_with fail
              refine (coded_any _ E (HS.out.ext X3.out) _ 2 (-1) 2 (.sent 1 (by decide))).mono ?_
              rintro e w4 ⟨he, h4⟩
              obtain rfl : e = .returned (.bool true) := by rw [he]; exact ret_bool (by decide)
              have X4 := Lib.hid (X3.out.trans h4)
              have HA4 := Lib.hid (HA.out.kept (S := fun _ => False) h4.keeps id (fun _ _ => id))
              clear he h4
              go_wp2_with fail
              refine (len_calls _ _ _ _ _ _ HA4.out).mono ?_
              rintro e w5 ⟨rfl, rfl⟩
              have hsz2 : ((bs L).size : Int) = (L.length : Int) := by rw [bs_size]
              go_wp2_with fail
              go_roundw
              case rel => exact ⟨i + 1, u, L, by omega, by go_num, rfl, Lib.hid ⟨HA4.out, by omega, HP.out.own, X4.out⟩⟩
              case measure => simp [intOf]; omega
            | false =>
              go_wp2_with fail
              refine (put_out _ _ y _ _ _ HE3.out p4 p5 p6 HNO.out).mono ?_
              rintro e w3 ⟨rfl, rfl⟩
              go_wp2_with fail
              refine (coded_any _ E (HS.out.ext X3.out) _ 2 (-1) 2 (.sent 1 (by decide))).mono ?_
              rintro e w4 ⟨he, h4⟩
              obtain rfl : e = .returned (.bool true) := by rw [he]; exact ret_bool (by decide)
              have X4 := Lib.hid (X3.out.trans h4)
              have HA4 := Lib.hid (HA.out.kept (S := fun _ => False) h4.keeps id (fun _ _ => id))
              clear he h4
              go_wp2_with fail
              refine (len_calls _ _ _ _ _ _ HA4.out).mono ?_
              rintro e w5 ⟨rfl, rfl⟩
              have hsz2 : ((bs L).size : Int) = (L.length : Int) := by rw [bs_size]
              go_wp2_with fail
              go_roundw
              case rel => exact ⟨i + 1, u, L, by omega, by go_num, rfl, Lib.hid ⟨HA4.out, by omega, HP.out.own, X4.out⟩⟩
              case measure => simp [intOf]; omega
          · cases tb with
            | true =>
              go_wp2_with fail
              refine (turned_out _ _ y _ _ _ HE3.out p4 p5 p6 HNO.out).mono ?_
              rintro e w3 ⟨rfl, rfl⟩
              go_wp2_with fail
              refine (coded_any _ E (HS.out.ext X3.out) _ 2 (-1) 2 (.sent 1 (by decide))).mono ?_
              rintro e w4 ⟨he, h4⟩
              obtain rfl : e = .returned (.bool true) := by rw [he]; exact ret_bool (by decide)
              have X4 := Lib.hid (X3.out.trans h4)
              have HA4 := Lib.hid (HA.out.kept (S := fun _ => False) h4.keeps id (fun _ _ => id))
              clear he h4
              go_wp2_with fail
              refine (len_calls _ _ _ _ _ _ HA4.out).mono ?_
              rintro e w5 ⟨rfl, rfl⟩
              have hsz2 : ((bs L).size : Int) = (L.length : Int) := by rw [bs_size]
              go_wp2_with fail
              go_roundw
              case rel => exact ⟨i + 1, u, L, by omega, by go_num, rfl, Lib.hid ⟨HA4.out, by omega, HP.out.own, X4.out⟩⟩
              case measure => simp [intOf]; omega
            | false =>
              go_wp2_with fail
              refine (put_out _ _ y _ _ _ HE3.out p4 p5 p6 HNO.out).mono ?_
              rintro e w3 ⟨rfl, rfl⟩
              go_wp2_with fail
              refine (coded_any _ E (HS.out.ext X3.out) _ 2 (-1) 2 (.sent 1 (by decide))).mono ?_
              rintro e w4 ⟨he, h4⟩
              obtain rfl : e = .returned (.bool true) := by rw [he]; exact ret_bool (by decide)
              have X4 := Lib.hid (X3.out.trans h4)
              have HA4 := Lib.hid (HA.out.kept (S := fun _ => False) h4.keeps id (fun _ _ => id))
              clear he h4
              go_wp2_with fail
              refine (len_calls _ _ _ _ _ _ HA4.out).mono ?_
              rintro e w5 ⟨rfl, rfl⟩
              have hsz2 : ((bs L).size : Int) = (L.length : Int) := by rw [bs_size]
              go_wp2_with fail
              go_roundw
              case rel => exact ⟨i + 1, u, L, by omega, by go_num, rfl, Lib.hid ⟨HA4.out, by omega, HP.out.own, X4.out⟩⟩
              case measure => simp [intOf]; omega
          · obtain ⟨k, rfl⟩ : ∃ k : Nat, wd = k := ⟨wd.toNat, by omega⟩
            have t1 : decide ((0 : Int) < (y : Int) / 2 ^ k) = true := by
              rw [decide_eq_true_iff, show ((y : Int) / 2 ^ k) = ((y / 2 ^ k : Nat) : Int) by simp]
              have : 0 < y / 2 ^ k := Nat.div_pos (by simpa using q3) (Nat.two_pow_pos _)
              omega
            clear q3
            cases tb with
            | true =>
              go_wp2_with fail
              refine (turned_out _ _ y _ _ _ HE3.out p4 p5 p6 HNO.out).mono ?_
              rintro e w3 ⟨rfl, rfl⟩
              go_wp2_with fail
              refine (coded_any _ E (HS.out.ext X3.out) _ 2 (-1) 2 (.sent 1 (by decide))).mono ?_
              rintro e w4 ⟨he, h4⟩
              obtain rfl : e = .returned (.bool true) := by rw [he]; exact ret_bool (by decide)
              have X4 := Lib.hid (X3.out.trans h4)
              have HA4 := Lib.hid (HA.out.kept (S := fun _ => False) h4.keeps id (fun _ _ => id))
              clear he h4
              go_wp2_with fail
              refine (len_calls _ _ _ _ _ _ HA4.out).mono ?_
              rintro e w5 ⟨rfl, rfl⟩
              have hsz2 : ((bs L).size : Int) = (L.length : Int) := by rw [bs_size]
              go_wp2_with fail
              go_roundw
              case rel => exact ⟨i + 1, u, L, by omega, by go_num, rfl, Lib.hid ⟨HA4.out, by omega, HP.out.own, X4.out⟩⟩
              case measure => simp [intOf]; omega
            | false =>
              go_wp2_with fail
              refine (put_out _ _ y _ _ _ HE3.out p4 p5 p6 HNO.out).mono ?_
              rintro e w3 ⟨rfl, rfl⟩
              go_wp2_with fail
              refine (coded_any _ E (HS.out.ext X3.out) _ 2 (-1) 2 (.sent 1 (by decide))).mono ?_
              rintro e w4 ⟨he, h4⟩
              obtain rfl : e = .returned (.bool true) := by rw [he]; exact ret_bool (by decide)
              have X4 := Lib.hid (X3.out.trans h4)
              have HA4 := Lib.hid (HA.out.kept (S := fun _ => False) h4.keeps id (fun _ _ => id))
              clear he h4
              go_wp2_with fail
              refine (len_calls _ _ _ _ _ _ HA4.out).mono ?_
              rintro e w5 ⟨rfl, rfl⟩
              have hsz2 : ((bs L).size : Int) = (L.length : Int) := by rw [bs_size]
              go_wp2_with fail
              go_roundw
              case rel => exact ⟨i + 1, u, L, by omega, by go_num, rfl, Lib.hid ⟨HA4.out, by omega, HP.out.own, X4.out⟩⟩
              case measure => simp [intOf]; omega
    · obtain rfl : i = len := by omega
      have hll := HP.out.len
      go_wp2_with fail
      refine (text_calls _ _ _ _ _ _ HP.out.at_).mono ?_
      rintro e w3 ⟨⟨l, hl, hV, rfl⟩, rfl⟩
      go_wp2_with fail
      refine (packed_any L (by omega) _).mono ?_
      rintro e w4 ⟨⟨m, hm, hVm, rfl⟩, h4⟩
      obtain rfl : l = m := Crc.num_inj l m (hl.trans hm.symm) (hV.trans hVm.symm)
      have X4 := Lib.hid (HP.out.ext.trans h4)
      clear hl hV hm hVm h4
      go_wp2_with fail
      go_ret
      exact ⟨ret_bool (by simp), X4.out⟩
theorem puts_any (x : Option Addr) (len cap : Nat) (p : Nat → Pc) (w : World) (E : Nat → Addr) (hS : Errs w E) (hlen : len ≤ maxLen) (hx0 : x = none → len = 0) (hx : ∀ a, x = some a → 0 < len → a.block < w.heap.size ∧ Pieces w a len p) :
    Calls Tryd.prog 4 #[.slice x len cap] w fun e w' => e = .returned (.bool true) ∧ Ext w w' := by
  by_cases h : len ≤ 100
  · exact puts_in x len cap p w E hS h hx hx0
  · exact puts_out x len cap w (by omega) hlen
end Go.Proofs.YtkddbhngffbljaaDoor
