/- The document's rows, done and undone. -/
import Derived.Test.YtkddbhngffbljaaDoorRefFilt
namespace Go.Proofs.YtkddbhngffbljaaDoor
open Go.RowKit
set_option maxRecDepth 100000
theorem refByte (x : UInt8) (g : Nat) (hg : g < 256) : (x.toNat + 256 - g) % 256 = (x - UInt8.ofNat g).toNat := by
  have h := sub_spell x g
  have hx := x.toNat_lt
  omega
theorem refByte2 (x : UInt8) (g : Nat) : (x.toNat + g) % 256 = (x + UInt8.ofNat g).toNat := by
  have h := add_spell x g
  omega
/-- bytes as a text -/
@[irreducible] def tx (l : List UInt8) : ByteArray := ⟨l.toArray⟩
theorem tx_eq (l : List UInt8) : tx l = ⟨l.toArray⟩ := by unfold tx; rfl
theorem tx_list (l : List UInt8) : (tx l).data.toList = l := by unfold tx; rfl
theorem tx_size (l : List UInt8) : (tx l).size = l.length := by rw [tx_eq]; rfl
theorem tx_append (l m : List UInt8) : tx l ++ tx m = tx (l ++ m) := bytes_ext (by rw [bytes_cat, tx_list, tx_list, tx_list])
theorem tx_one (b : UInt8) : (⟨#[b]⟩ : ByteArray) = tx [b] := bytes_ext (by rw [tx_list])
theorem tx_nil : (⟨#[]⟩ : ByteArray) = tx [] := bytes_ext (by rw [tx_list])
theorem tx_of (s : ByteArray) : tx s.data.toList = s := bytes_ext (by rw [tx_list])
def doT (k : Int) (row ahead : List UInt8) (step i : Nat) : List UInt8 := (List.range i).map fun j => doB k row ahead step j
def s256 (b : UInt8) : Prop := b.toNat < 256
theorem rowOf_any (k : Int) (row ahead : ByteArray) (step : Nat) (w : World) (h1 : 0 ≤ k) (h2 : k ≤ 4) (h3 : step ≤ 8) (hr : row.size ≤ 1000000) :
    Calls Tryd.prog 49 #[.int .i64 k, .string row, .string ahead, .int .i64 (step : Int)] w fun e w' => e = .returned (.string (doS k row ahead step)) ∧ Ext w w' := by
  go_enter Tryd.func49, Tryd.ntmps49
  go_wp2_with fail
  rw [tx_nil]
  have HL0 : Hid (∀ i, tx (doT k row.data.toList ahead.data.toList step i) ++ tx [doB k row.data.toList ahead.data.toList step i] = tx (doT k row.data.toList ahead.data.toList step (i + 1))) := Lib.hid (fun i => by rw [tx_append]; unfold doT; rw [List.range_succ, List.map_append]; rfl)
  have HSZ : Hid (∀ i, (tx (doT k row.data.toList ahead.data.toList step i)).size = i) := Lib.hid (fun i => by rw [tx_size]; unfold doT; simp)
  go_loopw [9, 10] (fun o c wr => ∃ i : Nat, i ≤ row.size ∧ c = .int .i64 i ∧ o = .string (tx (doT k row.data.toList ahead.data.toList step i)) ∧ Hid (Ext w wr)) (fun _ c _ => row.size - (intOf c).toNat)
  case atStart => exact ⟨0, by omega, rfl, rfl, Lib.hid (Ext.refl _)⟩
  case round =>
    obtain ⟨i, hi, rfl, rfl, HX⟩ := hrel
    by_cases hlt : i < row.size
    · have hs1 := HSZ.out i
      have hsz : (tx (doT k row.data.toList ahead.data.toList step i)).size ≤ 1000000 := by omega
      have HL := Lib.hid (HL0.out i)
      have hb : s256 row[i] := row[i].toNat_lt
      unfold s256 at hb
      have hra : row.data.toList.getD i 0 = row[i] := (row_at row i hlt).symm
      have A1 := fun w => refPre row step i w h3 (by omega)
      have A2 := fun w => refHere ahead i w (by omega)
      have A3 := fun w => refPre ahead step i w h3 (by omega)
      have A4 := fun w => guess_calls k (pre row.data.toList step i) (ahead.data.toList.getD i 0).toNat (pre ahead.data.toList step i) w h1 h2 (pre_lt _ _ _) (UInt8.toNat_lt _) (pre_lt _ _ _)
      obtain ⟨g, hg⟩ : ∃ g, fore k (pre row.data.toList step i) (ahead.data.toList.getD i 0).toNat (pre ahead.data.toList step i) = g := ⟨_, rfl⟩
      have hg256 : g < 256 := by rw [← hg]; exact fore_lt _ _ _ _ (pre_lt _ _ _) (UInt8.toNat_lt _) (pre_lt _ _ _)
      rw [hg] at A4
      have HB : Hid (doB k row.data.toList ahead.data.toList step i = row[i] - UInt8.ofNat g) := Lib.hid (by unfold doB; rw [hra, hg])
      generalize pre row.data.toList step i = pa at *
      generalize (ahead.data.toList.getD i 0).toNat = pb at *
      generalize pre ahead.data.toList step i = pc at *
      have HA1 := Lib.hid A1
      have HA2 := Lib.hid A2
      have HA3 := Lib.hid A3
      have HA4 := Lib.hid A4
      clear A1 A2 A3 A4
      have HV := Lib.hid (refByte row[i] g hg256)
      generalize tx (doT k row.data.toList ahead.data.toList step i) = O at *
      clear hs1 hra hg
      go_wp2_with fail
      refine (HA1.out _).mono ?_
      rintro e w2 ⟨rfl, rfl⟩
      go_wp2_with fail
      refine (HA2.out _).mono ?_
      rintro e w2 ⟨rfl, rfl⟩
      go_wp2_with fail
      refine (HA3.out _).mono ?_
      rintro e w2 ⟨rfl, rfl⟩
      go_wp2_with fail
      refine (HA4.out _).mono ?_
      rintro e w2 ⟨rfl, rfl⟩
      go_wp2_with fail
      rw [show ((row[i].toNat : Int) + 256 - (g : Int)) % 256 = (((row[i].toNat + 256 - g) % 256 : Nat) : Int) by omega, HV.out]
      refine (byte_any _ (UInt8.toNat_lt _) _).mono ?_
      rintro e w3 ⟨rfl, h3'⟩
      have HX3 := Lib.hid (HX.out.trans h3')
      clear h3'
      rw [UInt8.ofNat_toNat, ← HB.out, tx_one]
      have hz1 : (tx [doB k row.data.toList ahead.data.toList step i]).size = 1 := by rw [tx_size]; rfl
      go_wp2_with fail
      rw [HL.out]
      go_roundw
      case rel => exact ⟨i + 1, by omega, by go_num, rfl, HX3⟩
      case measure => simp [intOf]; omega
    · obtain rfl : i = row.size := by omega
      go_wp2_with fail
      go_ret
      refine ⟨?_, HX.out⟩
      have e : doS k row ahead step = tx (doT k row.data.toList ahead.data.toList step row.size) := by
        rw [tx_eq]; unfold doS doT doL; rw [Array.length_toList]; rfl
      rw [e]; rfl
theorem unrowOf_any (k : Int) (row ahead : ByteArray) (step : Nat) (w : World) (h1 : 0 ≤ k) (h2 : k ≤ 4) (h3 : step ≤ 8) (hr : row.size ≤ 1000000) :
    Calls Tryd.prog 50 #[.int .i64 k, .string row, .string ahead, .int .i64 (step : Int)] w fun e w' => e = .returned (.string (undoS k row ahead step)) ∧ Ext w w' := by
  go_enter Tryd.func50, Tryd.ntmps50
  go_wp2_with fail
  rw [tx_nil]
  have HL0 : Hid (∀ i, tx (undoL k row.data.toList ahead.data.toList step i) ++ tx [row.data.toList.getD i 0 + UInt8.ofNat (fore k (pre (undoL k row.data.toList ahead.data.toList step i) step i) (ahead.data.toList.getD i 0).toNat (pre ahead.data.toList step i))] = tx (undoL k row.data.toList ahead.data.toList step (i + 1))) := Lib.hid (fun i => by rw [tx_append]; rfl)
  have HSZ : Hid (∀ i, (tx (undoL k row.data.toList ahead.data.toList step i)).size = i) := Lib.hid (fun i => by rw [tx_size, undoL_length])
  have HTL : Hid (∀ i, (tx (undoL k row.data.toList ahead.data.toList step i)).data.toList = undoL k row.data.toList ahead.data.toList step i) := Lib.hid (fun i => tx_list _)
  go_loopw [9, 10] (fun o c wr => ∃ i : Nat, i ≤ row.size ∧ c = .int .i64 i ∧ o = .string (tx (undoL k row.data.toList ahead.data.toList step i)) ∧ Hid (Ext w wr)) (fun _ c _ => row.size - (intOf c).toNat)
  case atStart => exact ⟨0, by omega, rfl, rfl, Lib.hid (Ext.refl _)⟩
  case round =>
    obtain ⟨i, hi, rfl, rfl, HX⟩ := hrel
    by_cases hlt : i < row.size
    · have hs1 := HSZ.out i
      have hsz : (tx (undoL k row.data.toList ahead.data.toList step i)).size ≤ 1000000 := by omega
      have HL := Lib.hid (HL0.out i)
      have hb : s256 row[i] := row[i].toNat_lt
      unfold s256 at hb
      have hra : row.data.toList.getD i 0 = row[i] := (row_at row i hlt).symm
      have htl := HTL.out i
      have A1 := fun w => refPre (tx (undoL k row.data.toList ahead.data.toList step i)) step i w h3 (by omega)
      rw [htl] at A1
      have A2 := fun w => refHere ahead i w (by omega)
      have A3 := fun w => refPre ahead step i w h3 (by omega)
      have A4 := fun w => guess_calls k (pre (undoL k row.data.toList ahead.data.toList step i) step i) (ahead.data.toList.getD i 0).toNat (pre ahead.data.toList step i) w h1 h2 (pre_lt _ _ _) (UInt8.toNat_lt _) (pre_lt _ _ _)
      obtain ⟨g, hg⟩ : ∃ g, fore k (pre (undoL k row.data.toList ahead.data.toList step i) step i) (ahead.data.toList.getD i 0).toNat (pre ahead.data.toList step i) = g := ⟨_, rfl⟩
      have hg256 : g < 256 := by rw [← hg]; exact fore_lt _ _ _ _ (pre_lt _ _ _) (UInt8.toNat_lt _) (pre_lt _ _ _)
      rw [hg] at A4
      have HB : Hid (row.data.toList.getD i 0 + UInt8.ofNat (fore k (pre (undoL k row.data.toList ahead.data.toList step i) step i) (ahead.data.toList.getD i 0).toNat (pre ahead.data.toList step i)) = row[i] + UInt8.ofNat g) := Lib.hid (by rw [hra, hg])
      rw [HB.out] at HL
      generalize pre (undoL k row.data.toList ahead.data.toList step i) step i = pa at *
      generalize (ahead.data.toList.getD i 0).toNat = pb at *
      generalize pre ahead.data.toList step i = pc at *
      have HA1 := Lib.hid A1
      have HA2 := Lib.hid A2
      have HA3 := Lib.hid A3
      have HA4 := Lib.hid A4
      clear A1 A2 A3 A4
      have HV := Lib.hid (refByte2 row[i] g)
      clear HB htl
      generalize tx (undoL k row.data.toList ahead.data.toList step i) = O at *
      clear hs1 hra hg
      go_wp2_with fail
      refine (HA1.out _).mono ?_
      rintro e w2 ⟨rfl, rfl⟩
      go_wp2_with fail
      refine (HA2.out _).mono ?_
      rintro e w2 ⟨rfl, rfl⟩
      go_wp2_with fail
      refine (HA3.out _).mono ?_
      rintro e w2 ⟨rfl, rfl⟩
      go_wp2_with fail
      refine (HA4.out _).mono ?_
      rintro e w2 ⟨rfl, rfl⟩
      go_wp2_with fail
      rw [show ((row[i].toNat : Int) + (g : Int)) % 256 = (((row[i].toNat + g) % 256 : Nat) : Int) by omega, HV.out]
      refine (byte_any _ (UInt8.toNat_lt _) _).mono ?_
      rintro e w3 ⟨rfl, h3'⟩
      have HX3 := Lib.hid (HX.out.trans h3')
      clear h3'
      rw [UInt8.ofNat_toNat, tx_one]
      have hz1 : (tx [row[i] + UInt8.ofNat g]).size = 1 := by rw [tx_size]; rfl
      go_wp2_with fail
      rw [HL.out]
      go_roundw
      case rel => exact ⟨i + 1, by omega, by go_num, rfl, HX3⟩
      case measure => simp [intOf]; omega
    · obtain rfl : i = row.size := by omega
      go_wp2_with fail
      go_ret
      refine ⟨?_, HX.out⟩
      have e : undoS k row ahead step = tx (undoL k row.data.toList ahead.data.toList step row.size) := by
        rw [tx_eq]; rfl
      rw [e]; rfl
end Go.Proofs.YtkddbhngffbljaaDoor
