/-
  A zipped text: its head, its sum.
  A zipped text is read: plain laws.
-/
import Derived.Test.YtnhbjgmfbcedaaaDoorDeflateTwiceG1
import Derived.Test.YtnhbjgmfbcedaaaDoorDeflateTwiceG17
import Derived.Test.YtnhbjgmfbcedaaaDoorDeflateTwiceG4
set_option linter.unusedSimpArgs false
set_option linter.unusedVariables false
set_option maxRecDepth 100000
namespace Go.Proofs.YtnhbjgmfbcedaaaDoor
open Go.RowKit
theorem u8_15 (x : Nat) (hx : x < 256) : bits BinOp.and IntKind.u8 (x : Int) 15 = ((x % 16 : Nat) : Int) := by
  rw [show (15 : Int) = ((15 : Nat) : Int) from rfl, u8_and_nat x 15 hx (by decide), nat_mask4]
theorem u8_32 (x : Nat) (hx : x < 256) : (bits BinOp.and IntKind.u8 (x : Int) 32 != 0) = decide (x / 32 % 2 ≠ 0) := by
  rw [show (32 : Int) = ((32 : Nat) : Int) from rfl, u8_and_nat x 32 hx (by decide)];have : ∀ x, x < 256 → ((((x &&& 32 : Nat) : Int) != 0) = decide (x / 32 % 2 ≠ 0)) := by decide +kernel
  exact this x hx
theorem i64_or8 (x y : Nat) (hx : x < 256) (hy : y < 256) : bits BinOp.or IntKind.i64 ((x : Int) * 256) (y : Int) = ((x * 256 + y : Nat) : Int) := by
  rw [show ((x : Int) * 256) = ((x * 256 : Nat) : Int) by omega, ← nat_join 8 (x * 256) y (by omega) (by omega)];show IntKind.i64.wrap ((BitVec.ofInt 64 ((x * 256 : Nat) : Int) ||| BitVec.ofInt 64 (y : Int)).toNat : Int) = _;have hx2 : x * 256 ||| y < 2 ^ 16 := Nat.or_lt_two_pow (by omega) (by omega)
  rw [BitVec.ofInt_natCast, BitVec.ofInt_natCast, BitVec.toNat_or, BitVec.toNat_ofNat, BitVec.toNat_ofNat, Nat.mod_eq_of_lt (by omega), Nat.mod_eq_of_lt (by omega), IntKind.wrap_i64];omega
namespace Inf
/-- the head of a zipped text -/
def headOk (s : ByteArray) : Prop := 2 ≤ s.size ∧ (s.data.toList.getD 0 0).toNat % 16 = 8 ∧ (s.data.toList.getD 0 0).toNat / 16 ≤ 7 ∧ ((s.data.toList.getD 0 0).toNat * 256 + (s.data.toList.getD 1 0).toNat) % 31 = 0 ∧ (s.data.toList.getD 1 0).toNat / 32 % 2 = 0
instance (s : ByteArray) : Decidable (headOk s) := by unfold headOk; infer_instance
noncomputable def unz (s : ByteArray) (most : Int) : Except Nat (List UInt8) :=
  if most < 0 ∨ 300000 < most ∨ 300000 < s.size then .error 1 else
  if ¬ headOk s then .error 0 else
  match infl (s.extract 2 s.size) most with
  | .error c => .error c
  | .ok (out, used, _) => if s.size ≠ 2 + used + 4 then .error 0 else if valN (s.data.toList.drop (2 + used)) ≠ Adl.adler out then .error 3 else .ok out
end Inf
theorem head_is (s : ByteArray) (h1 : 1 < s.size) : Inf.headOk s ↔ (s[0].toNat % 16 = 8 ∧ s[0].toNat / 16 ≤ 7 ∧ (s[0].toNat * 256 + s[1].toNat) % 31 = 0 ∧ s[1].toNat / 32 % 2 = 0) := by
  have e0 : s.data.toList.getD 0 0 = s[0] := by rw [List.getD, List.getElem?_eq_getElem (by rw [bytes_len]; omega)]; rfl
  have e1 : s.data.toList.getD 1 0 = s[1] := by rw [List.getD, List.getElem?_eq_getElem (by rw [bytes_len]; omega)]; rfl
  unfold Inf.headOk;rw [e0, e1];exact ⟨fun h => h.2, fun h => ⟨h1, h⟩⟩
def UzPost (w w' : World) (E : Nat → Addr) (r : Except Nat (List UInt8)) (e : Ending) : Prop :=
  Ext w w' ∧ match r with
  | .ok out => e = .returned (.tuple #[.string (tb out), .nilIface])
  | .error c => e = .returned (.tuple #[.string ⟨#[]⟩, sentV (E c)])
end Go.Proofs.YtnhbjgmfbcedaaaDoor
namespace Go.Proofs.YtnhbjgmfbcedaaaDoor
open Go.RowKit
theorem tb_self (s : ByteArray) : tb s.data.toList = s := bts_ext (by rw [tb_list])
theorem ba_tail (l : List UInt8) : (⟨(120 :: 156 :: l).toArray⟩ : ByteArray).extract 2 (⟨(120 :: 156 :: l).toArray⟩ : ByteArray).size = ⟨l.toArray⟩ := by
  apply bts_ext;rw [ByteArray.data_extract, Array.toList_extract];show ((120 :: 156 :: l).take (l.length + 1 + 1)).drop 2 = l;rw [List.take_of_length_le (by simp)];rfl
theorem zipL_length (l t : List UInt8) : (zipL l t).length = l.length + 6 := by unfold zipL big4; simp
theorem unz_zip {l t : List UInt8} (h : Reads l t) (hl : l.length + 6 ≤ 300000) {most : Nat} (hm : t.length ≤ most) (hmm : most ≤ 300000) : Inf.unz (⟨(zipL l t).toArray⟩ : ByteArray) (most : Int) = .ok t := by
  have hsz : (⟨(zipL l t).toArray⟩ : ByteArray).size = l.length + 6 := zipL_length l t;obtain ⟨bl, hi⟩ := h.infl (big4 (Adl.adler t)) (by show l.length + 4 ≤ 300000; omega) hm hmm;have hex : (⟨(zipL l t).toArray⟩ : ByteArray).extract 2 (⟨(zipL l t).toArray⟩ : ByteArray).size = ⟨(l ++ big4 (Adl.adler t)).toArray⟩ := ba_tail _;have hh : Inf.headOk (⟨(zipL l t).toArray⟩ : ByteArray) := by
    refine ⟨by rw [hsz]; omega, ?_⟩;show (120 : Nat) % 16 = 8 ∧ 120 / 16 ≤ 7 ∧ (120 * 256 + 156) % 31 = 0 ∧ 156 / 32 % 2 = 0;decide
  have hdrop : (⟨(zipL l t).toArray⟩ : ByteArray).data.toList.drop (2 + l.length) = big4 (Adl.adler t) := by
    show (120 :: 156 :: (l ++ big4 (Adl.adler t))).drop (2 + l.length) = _;rw [show 2 + l.length = l.length + 1 + 1 by omega, List.drop_succ_cons, List.drop_succ_cons, List.drop_left]
  unfold Inf.unz;rw [if_neg (by rw [hsz]; omega), if_neg (fun q => q hh), hex, hi];simp only [];rw [if_neg (by rw [hsz]; omega), hdrop, valN_big4 _ (adl_lt t), if_neg (fun q => q rfl)]
end Go.Proofs.YtnhbjgmfbcedaaaDoor
