/-
  deflate.Deflate, deflate.Zip.
  The document's bits: Byte, Low, High.
  The document's bits of a text, and the number of bits.
  The document's reader of packed texts: its memory; ok, fail, align, get.
  A zipped text: its head, its sum.
  A zipped text is read: plain laws.
  The document's tables of lengths and distances.
-/
import Derived.Test.YtnhbjgmfbcedaaaDoorDeflatePacksG1
import Derived.Test.YtnhbjgmfbcedaaaDoorDeflatePacksG11
import Derived.Test.YtnhbjgmfbcedaaaDoorDeflatePacksG12
import Derived.Test.YtnhbjgmfbcedaaaDoorDeflatePacksG14
import Derived.Test.YtnhbjgmfbcedaaaDoorDeflatePacksG16
import Derived.Outline
import Derived.Test.YtnhbjgmfbcedaaaDoorDeflatePacksG2
import Derived.Test.YtnhbjgmfbcedaaaDoorDeflatePacksG3
import Derived.Test.YtnhbjgmfbcedaaaDoorDeflatePacksG4
set_option linter.unusedSimpArgs false
set_option linter.unusedVariables false
set_option maxRecDepth 100000
namespace Go.Proofs.YtnhbjgmfbcedaaaDoor
open Go.RowKit
theorem list_sz (s : ByteArray) : s.data.toList.length = s.size := rfl
/-- tokens of a text, as they come from match.Tokens -/
theorem toks_own {w : World} {b : Nat} {v : Value} {s : ByteArray} {W T : Nat} {l : List Tk} (h : w.ownsRow b 84 3 v l.length (tkV l.length (tkl l))) (hT : TL s W T s.size l) : ∃ x c, v = .slice x l.length c ∧ Toks w x l.length (tkl l) :=
 Toks.of_own h (fun i hi => hT.ok _ (by unfold tkl; rw [List.getD, List.getElem?_eq_getElem hi]; exact List.getElem_mem hi))
theorem tkl_map (l : List Tk) : (List.range l.length).map (tkl l) = l := by
 apply List.ext_getElem
 ·simp
 ·intro i h1 h2;simp [tkl, List.getD, List.getElem?_eq_getElem h2]
theorem tl_exp {s : ByteArray} {W T : Nat} {l : List Tk} (hT : TL s W T s.size l) : expL (tkl l) l.length = .ok s.data.toList := by
 have := hT.means;rw [pre_all] at this;exact this
theorem tl_means {s : ByteArray} {W T : Nat} {l : List Tk} (hT : TL s W T s.size l) : Dfl.Means [] l s.data.toList := by
 have := Dfl.means_exp l.length _ (tl_exp hT);rw [tkl_map] at this;exact this
/-- the shortest of three ways -/
def DfaP (s : ByteArray) (e : Ending) : Prop := ∃ l : List UInt8, e = .returned (.tuple #[.string ⟨l.toArray⟩, .nilIface]) ∧ Reads l s.data.toList ∧ l.length ≤ (Sto.all (s.size + 1) s.data.toList).length
set_option linter.unusedSimpArgs false in
set_option maxHeartbeats 4000000 in
theorem deflate_any (s : ByteArray) (w : World) (hTb : Tabs w) (EB ES : Value) (hB : w.cell? ⟨0, 0, none⟩ = some EB) (hS : w.cell? ⟨3, 0, none⟩ = some ES) (hs : s.size ≤ 300000) :
  Calls Tryd.prog 20 #[.string s] w fun e w' => DfaP s e ∧ Ext w w' := by
 have HTb := Lib.hid hTb;have HB := Lib.hid hB;have HS := Lib.hid hS;have hK := fun w => tokens_good s 32768 w hs (by decide) (by decide);simp only [show ((32768 : Nat) : Int) = 32768 from rfl] at hK;have HK := Lib.hid hK;obtain ⟨L, hL⟩ : ∃ L, Sto.all (s.size + 1) s.data.toList = L := ⟨_, rfl⟩;have hSt := fun w => stored_calls s w hs;rw [hL, tb_eq] at hSt;have HSt := Lib.hid hSt;have H0 : Hid (Reads L s.data.toList ∧ L.length ≤ L.length) := Lib.hid ⟨by rw [← hL]; exact reads_stored s.data.toList, Nat.le_refl _⟩;have HL := Lib.hid hL;have t0 : decide ((300000 : Int) < (s.size : Int)) = false := decide_eq_false (by omega);have n0 : ¬ 300000 < s.size := by omega
 clear hTb hB hS hK hSt hL;go_enter Tryd.func20, Tryd.ntmps20
 go_wp2_with fail;refine (HK.out _).mono ?_;rintro e w1 ⟨ts, v, rfl, hown, hTL, hX⟩;obtain ⟨x, c, rfl, hT⟩ := toks_own hown hTL;have HT := Lib.hid hT;have HTL := Lib.hid hTL;have X1 := Lib.hid hX;have hfew := hTL.few;obtain ⟨n, hn⟩ : ∃ n, ts.length = n := ⟨_, rfl⟩;rw [hn] at HT hfew;rw [hn];have HN := Lib.hid hn;have HOK := Lib.hid (show ∀ i, i < n → (tkl ts i).l = 0 ∨ (3 ≤ (tkl ts i).l ∧ (tkl ts i).l ≤ 258 ∧ 1 ≤ (tkl ts i).d ∧ (tkl ts i).d ≤ 32768) from by
  have := exp_ok (tl_exp hTL);rw [hn] at this;exact this)
 clear hown hTL hT hX hn;go_wp2_with fail;refine (HSt.out _).mono ?_;rintro e w2 ⟨rfl, hX⟩;have X2 := Lib.hid (X1.out.trans hX);have HT2 := Lib.hid (HT.out.ext hX);clear hX X1 HT;go_upto_block 0 with fail;refine wp_world (fun wz => Ext w2 wz ∧ Bk wz w2.heap.size #[.func (.func 55) #[] #[], .func (.func 56) #[] #[]]) ⟨(Ext.refl _).alloc _, Bk.at rfl⟩ ?_;rintro w3 ⟨hX, hK⟩;obtain ⟨FB, hFB⟩ : ∃ q, w2.heap.size = q := ⟨_, rfl⟩;rw [hFB] at hK;rw [hFB];have X3 := Lib.hid (X2.out.trans hX);have HT3 := Lib.hid (HT2.out.ext hX);have HF3 := Lib.hid hK;clear hX hK hFB X2 HT2;go_wp2_with fail;go_loopw [6, 23] (fun s6 c wr => ∃ (i : Nat) (l : List UInt8), c = .int .i64 (i : Int) ∧ i ≤ 2 ∧ s6 = .string ⟨l.toArray⟩ ∧ Hid (Reads l s.data.toList ∧ l.length ≤ L.length) ∧ Hid (Ext w3 wr)) (fun _ c _ => 2 - (intOf c).toNat)
 case atStart => exact ⟨0, L, rfl, by omega, rfl, H0, Lib.hid (Ext.refl _)⟩
 case round =>
  clear H0;obtain ⟨i, l, rfl, hi, rfl, HR, HW⟩ := hrel;have hF := HF3.out.ext HW.out;have f0 := hF.cell 0;have f1 := hF.cell 1;simp only [xg, xh] at f0 f1;clear hF;match i, hi with
  | 0, _ =>
   have t1 : decide ((0 : Int) < 2) = true := by decide
   go_wp2_with fail;refine (dfixed_any x n c (tkl ts) wr (HT3.out.ext HW.out) (HTb.out.ext (X3.out.trans HW.out)) EB ES (((X3.out.trans HW.out).cell (World.block_lt_of_cell? w _ HB.out)).trans HB.out) (((X3.out.trans HW.out).cell (World.block_lt_of_cell? w _ HS.out)).trans HS.out) (by omega) HOK.out).mono ?_;rintro e w4 ⟨⟨l2, h1, h2, rfl⟩, hX⟩;have hR2 : Reads l2 s.data.toList := reads_fixed (tl_means HTL.out) (ts := ts) (by rw [← HN.out, tkl_map] at h1; exact h1) (by rw [← HN.out, tkl_map] at h2; exact h2);have HR2 := Lib.hid hR2;have HX4 := Lib.hid (HW.out.trans hX);clear h1 h2 hX hR2;by_cases hlt : l2.length < l.length
   ·have t2 : decide ((l2.length : Int) < (l.length : Int)) = true := decide_eq_true (by omega);go_wp2_with fail;go_roundw
    case rel => exact ⟨1, l2, rfl, by omega, rfl, Lib.hid ⟨HR2.out, by have := HR.out.2; omega⟩, HX4⟩
    case measure => simp [intOf]
   ·have t2 : decide ((l2.length : Int) < (l.length : Int)) = false := decide_eq_false (by omega);go_wp2_with fail;go_roundw
    case rel => exact ⟨1, l, rfl, by omega, rfl, HR, HX4⟩
    case measure => simp [intOf]
  | 1, _ =>
   have t1 : decide ((1 : Int) < 2) = true := by decide
   go_wp2_with fail;refine (dynamic_any x n c (tkl ts) wr (HT3.out.ext HW.out) (HTb.out.ext (X3.out.trans HW.out)) EB ES (((X3.out.trans HW.out).cell (World.block_lt_of_cell? w _ HB.out)).trans HB.out) (((X3.out.trans HW.out).cell (World.block_lt_of_cell? w _ HS.out)).trans HS.out) (by omega) HOK.out).mono ?_;rintro e w4 ⟨⟨many, far, few, rs, l2, h0, h1, h2, rfl⟩, hX⟩;have hR2 : Reads l2 s.data.toList := by
    rw [← HN.out, tkl_map] at h0 h1 h2;exact reads_dyn (tl_means HTL.out) h0 h1 h2
   have HR2 := Lib.hid hR2;have HX4 := Lib.hid (HW.out.trans hX);clear h0 h1 h2 hX hR2;by_cases hlt : l2.length < l.length
   ·have t2 : decide ((l2.length : Int) < (l.length : Int)) = true := decide_eq_true (by omega);go_wp2_with fail;go_roundw
    case rel => exact ⟨2, l2, rfl, by omega, rfl, Lib.hid ⟨HR2.out, by have := HR.out.2; omega⟩, HX4⟩
    case measure => simp [intOf]
   ·have t2 : decide ((l2.length : Int) < (l.length : Int)) = false := decide_eq_false (by omega);go_wp2_with fail;go_roundw
    case rel => exact ⟨2, l, rfl, by omega, rfl, HR, HX4⟩
    case measure => simp [intOf]
  | 2, _ =>
   have t1 : decide ((2 : Int) < 2) = false := by decide
   go_wp2_with fail;go_ret2;exact ⟨⟨l, rfl, HR.out.1, by rw [HL.out]; exact HR.out.2⟩, X3.out.trans HW.out⟩
/-- head, text, sum -/
def zipL (l t : List UInt8) : List UInt8 := [120, 156] ++ (l ++ big4 (Adl.adler t))
def ZipP (s : ByteArray) (e : Ending) : Prop := ∃ l : List UInt8, e = .returned (.tuple #[.string ⟨(zipL l s.data.toList).toArray⟩, .nilIface]) ∧ Reads l s.data.toList ∧ l.length ≤ (Sto.all (s.size + 1) s.data.toList).length
theorem adl_lt (l : List UInt8) : Adl.adler l < 4294967296 := Adl.more_lt 1 l
theorem ba_app (a b : List UInt8) : (⟨a.toArray⟩ : ByteArray) ++ ⟨b.toArray⟩ = ⟨(a ++ b).toArray⟩ := by
 apply bts_ext;rw [ByteArray.data_append];simp
set_option linter.unusedSimpArgs false in
set_option maxHeartbeats 4000000 in
theorem zip_any (s : ByteArray) (w : World) (hTb : Tabs w) (EB ES : Value) (hB : w.cell? ⟨0, 0, none⟩ = some EB) (hS : w.cell? ⟨3, 0, none⟩ = some ES) (hs : s.size ≤ 300000) :
  Calls Tryd.prog 21 #[.string s] w fun e w' => ZipP s e ∧ Ext w w' := by
 have HD := Lib.hid (deflate_any s w hTb EB ES hB hS hs);have HA := Lib.hid (fun w => adler_any s w (by unfold maxLen; omega));clear hTb hB hS;go_enter Tryd.func21, Tryd.ntmps21
 go_wp2_with fail;refine HD.out.mono ?_;rintro e w1 ⟨⟨l, rfl, hR, hl⟩, hX⟩;have HR := Lib.hid (And.intro hR hl);have X1 := Lib.hid hX;have hll : l.length ≤ 400000 := by
  have := Sto.all_length (s.size + 1) s.data.toList;rw [list_sz] at this;omega
 clear hR hl hX;go_wp2_with fail;refine (HA.out _).mono ?_;rintro e w2 ⟨rfl, rfl⟩;obtain ⟨n, hn⟩ : ∃ n, Adl.adler s.data.toList = n := ⟨_, rfl⟩;rw [hn];have HN := Lib.hid hn;clear hn;have hn4 : n < 4294967296 := by rw [← HN.out]; exact adl_lt _
 obtain ⟨wa, hwa⟩ : ∃ wa, wa = w1.alloc (.cells #[.int .u8 ((n : Int) / 16777216), .int .u8 ((n : Int) / 65536 % 256), .int .u8 ((n : Int) / 256 % 256), .int .u8 ((n : Int) % 256)] 5) := ⟨_, rfl⟩;have hcr : (convert 61 9 (.slice (some ⟨w1.heap.size, 0, none⟩) 4 4)).run Tryd.prog wa = .ok (.string ⟨(big4 n).toArray⟩) wa := by
  refine run_convert_bytes_back (P := Tryd.prog) wa 61 9 5 ⟨w1.heap.size, 0, none⟩ 4 (big4 n) Tryd.underlying61 Tryd.underlying5 Tryd.underlying9 (fun j hj => ?_);have hj4 : j < 4 := hj;rw [add_plain, hwa];match j, hj4 with
  | 0, _ => simp [big4]; omega
  | 1, _ => simp [big4]
  | 2, _ => simp [big4]
  | 3, _ => simp [big4]
 rw [hwa] at hcr;clear hwa wa;have hb4 : (big4 n).length = 4 := rfl;have hcat : ¬ 9223372036854775807 < 2 + l.length + (big4 n).length := by omega
 have hcat1 : ¬ 9223372036854775807 < 2 + l.length := by omega
 clear hb4;go_wp2_with fail;go_ret2;refine ⟨⟨l, ?_, HR.out.1, HR.out.2⟩, X1.out.alloc _⟩;rw [show (⟨#[120, 156]⟩ : ByteArray) = ⟨([120, 156] : List UInt8).toArray⟩ from rfl, ba_app, ba_app];unfold zipL;rw [HN.out, List.append_assoc];rfl
end Go.Proofs.YtnhbjgmfbcedaaaDoor
namespace Go.Proofs.YtnhbjgmfbcedaaaDoor
open Go.RowKit
theorem byte_any (k : Nat) (hk : k < 256) (w : World) : Calls Tryd.prog 33 #[.int .i64 (k : Int)] w fun e w' => e = .returned (.string ⟨#[UInt8.ofNat k]⟩) ∧ Ext w w' := by
  have hcr : (convert 61 9 (.slice (some ⟨w.heap.size, 0, none⟩) 1 1)).run Tryd.prog (w.alloc (.cells #[.int .u8 (k : Int)] 5)) = .ok (.string ⟨#[UInt8.ofNat k]⟩) (w.alloc (.cells #[.int .u8 (k : Int)] 5)) := by
    refine run_convert_bytes_back (P := Tryd.prog) (w.alloc (.cells #[.int .u8 (k : Int)] 5)) 61 9 5 ⟨w.heap.size, 0, none⟩ 1 [UInt8.ofNat k] Tryd.underlying61 Tryd.underlying5 Tryd.underlying9 (fun j hj => ?_);obtain rfl : j = 0 := by simpa using hj
    rw [add_plain]; simp; omega
  go_enter Tryd.func33, Tryd.ntmps33
  go_wp2_with fail;go_ret;exact ⟨rfl, (Ext.refl _).alloc _⟩
/-- bits as a text -/
@[irreducible] def bs (L : List Bool) : ByteArray := ⟨(Bts.str L).toArray⟩
theorem bs_list (L : List Bool) : (bs L).data.toList = Bts.str L := by unfold bs; rfl
theorem bs_size (L : List Bool) : (bs L).size = L.length := by show (bs L).data.size = _; rw [← Array.length_toList, bs_list, Bts.str_length]
theorem bytes_ext {a b : ByteArray} (h : a.data.toList = b.data.toList) : a = b := by
  obtain ⟨⟨a⟩⟩ := a; obtain ⟨⟨b⟩⟩ := b; simp at h; rw [h]
theorem bytes_cat (a b : ByteArray) : (a ++ b).data.toList = a.data.toList ++ b.data.toList := by simp
theorem bs_append (L M : List Bool) : bs L ++ bs M = bs (L ++ M) := bytes_ext (by rw [bytes_cat, bs_list, bs_list, bs_list, Bts.str_append])
theorem bs_one (b : Bool) : (⟨#[Bts.ch b]⟩ : ByteArray) = bs [b] := bytes_ext (by rw [bs_list]; rfl)
theorem bs_nil : ByteArray.empty = bs [] := bytes_ext (by rw [bs_list]; rfl)
theorem ch_of (y : Nat) : UInt8.ofNat (48 + y % 2) = Bts.ch (y % 2 == 1) := by
  rcases Nat.mod_two_eq_zero_or_one y with h | h <;> rw [h] <;> rfl
theorem bit_any (y : Nat) (w : World) : Calls Tryd.prog 33 #[.int .i64 (48 + (y : Int) % 2)] w fun e w' => e = .returned (.string (bs [y % 2 == 1])) ∧ Ext w w' := by
  have h := byte_any (48 + y % 2) (by omega) w;rw [ch_of, bs_one] at h;rw [show (48 + (y : Int) % 2) = ((48 + y % 2 : Nat) : Int) by omega];exact h
end Go.Proofs.YtnhbjgmfbcedaaaDoor
namespace Go.Proofs.YtnhbjgmfbcedaaaDoor
open Go.RowKit
theorem val_allB (l : List UInt8) : Bts.val (Bts.allB l) = Crc.num l := by
 induction l with
 | nil => rfl
 | cons b l ih =>
  simp only [Bts.allB, Crc.num];rw [Bts.val_append, Bts.val_low, Bts.low_length, ih, Nat.mod_eq_of_lt b.toNat_lt]; omega
theorem bits_any (s : ByteArray) (w : World) (hs : s.size ≤ 1000000) :
  Calls Tryd.prog 40 #[.string s] w fun e w' => e = .returned (.string (bs (Bts.allB s.data.toList))) ∧ Ext w w' := by
 obtain ⟨i0, hi0, hz0, hz1, hz2⟩ := info_parts u8info;obtain ⟨w2, hmk, hown, hgrow⟩ := run_make_own (P := Tryd.prog) w w.heap.size 61 5 i0 (.int .u8 0) 1 Tryd.underlying61 hi0 hz0 hz1 .i64 .i64 (8 * s.size) (by rw [hz2]; omega) (by unfold maxLen; omega) (Nat.le_refl _);have HO := Lib.hid hown;have HG : Hid (Ext w w2) := (Keeps.grown hgrow).below (Nat.le_refl _) (fun k _ q => by cases q);rw [show ((8 * s.size : Nat) : Int) = 8 * (s.size : Int) by omega] at hmk;clear hown hgrow;go_enter Tryd.func40, Tryd.ntmps40
 go_wp2_with fail;clear hmk;have HO0 : Hid (w2.ownsRow w.heap.size 5 1 (.slice (some ⟨w.heap.size, 0, none⟩) 0 (8 * s.size)) (Bts.str (Bts.allB (s.data.toList.take 0))).length (bytesV (Bts.str (Bts.allB (s.data.toList.take 0))))) := HO;clear HO;go_loopw [3, 4] (fun u c wr => ∃ i : Nat, i ≤ s.size ∧ c = .int .i64 i ∧ Hid (wr.ownsRow w.heap.size 5 1 u (Bts.str (Bts.allB (s.data.toList.take i))).length (bytesV (Bts.str (Bts.allB (s.data.toList.take i))))) ∧ Hid (Ext w wr)) (fun _ c _ => s.size - (intOf c).toNat)
 case atStart => exact ⟨0, by omega, rfl, HO0, HG⟩
 case round =>
  obtain ⟨i, hi, rfl, HR, HX⟩ := hrel;by_cases hlt : i < s.size
  ·obtain ⟨b, hb⟩ : ∃ b, s[i].toNat = b := ⟨_, rfl⟩;have hb256 : b < 256 := by rw [← hb]; exact s[i].toNat_lt
   have hts : Bts.allB (s.data.toList.take (i + 1)) = Bts.allB (s.data.toList.take i) ++ Bts.low b 8 := by
    rw [List.take_succ_eq_append_getElem (by simpa using hlt), Bts.allB_append, ← hb]; simp [Bts.allB]; rfl
   have hlen : (Bts.allB (s.data.toList.take i)).length ≤ 8 * i := by rw [Bts.allB_length]; simp; omega
   have HTS := Lib.hid hts;obtain ⟨L, hL⟩ : ∃ L, Bts.allB (s.data.toList.take i) = L := ⟨_, rfl⟩;rw [hL] at HR hlen;have HLL := Lib.hid hL;have HB := Lib.hid hb;clear hts hL;go_wp2_with fail;clear hb;go_loopw [3, 5, 6] (fun v n c wx => ∃ k : Nat, k ≤ 8 ∧ c = .int .i64 k ∧ n = .int .i64 ((b / 2 ^ k : Nat) : Int) ∧ Hid (wx.ownsRow w.heap.size 5 1 v (Bts.str (L ++ Bts.low b k)).length (bytesV (Bts.str (L ++ Bts.low b k)))) ∧ Hid (Ext w wx)) (fun _ _ c _ => 8 - (intOf c).toNat)
   case atStart => exact ⟨0, by omega, rfl, by simp, by simpa [Bts.low] using HR, HX⟩
   case round =>
    obtain ⟨k, hk, rfl, rfl, HR2, HX2⟩ := hrel;by_cases hlk : k < 8
    ·obtain ⟨y, hy⟩ : ∃ y, b / 2 ^ k = y := ⟨_, rfl⟩;have hy2 : b / 2 ^ (k + 1) = y / 2 := by rw [Nat.pow_succ, ← Nat.div_div_eq_div_mul, hy]
     have hyl : y < 256 := by rw [← hy]; exact Nat.lt_of_le_of_lt (Nat.div_le_self _ _) hb256
     have HLW : Hid (Bts.str (L ++ Bts.low b (k + 1)) = Bts.str (L ++ Bts.low b k) ++ [Bts.ch (y % 2 == 1)]) := Lib.hid (by rw [Bts.low, hy, ← List.append_assoc, Bts.str_append (L ++ _)]; rfl);obtain ⟨M, hM⟩ : ∃ M, Bts.str (L ++ Bts.low b k) = M := ⟨_, rfl⟩;have hMl : M.length ≤ 8 * i + 8 := by rw [← hM, Bts.str_length, List.length_append, Bts.low_length]; omega
     rw [hM] at HR2 HLW;rw [hy];have HY2 := Lib.hid hy2;clear hy hy2 hM;go_wp2_with (at_builtin; refine wpList_append_own _ rfl _ _ 61 rfl w.heap.size 5 i0 (.int .u8 0) 1 1 Tryd.underlying61 hi0 hz0 hz1 hz2 rfl (by decide) _ _ _ rfl (HR2.out.alloc _) ⟨wr.heap.size, 0, none⟩ 1 1 [.int .u8 (48 + (y : Int) % 2)] rfl rfl ?c1 ?c2 ?c3 ?c4 ?c5 ?_)
     case c1 => exact (cell_one_new _ _ _)
     case c2 => intro u hu; simp at hu; subst hu; rfl
     case c3 => unfold maxLen; omega
     case c4 => omega
     case c5 => have := HX2.out.size; simp; omega
     intro v' w' hown' hgrow _;have hE : Ext w w' := Below.trans (HX2.out.alloc _) ((Keeps.grown hgrow).below (HX2.out.alloc _).size (fun k hk e => by have := (HR2.out.lt k e).1; omega));have hO : w'.ownsRow w.heap.size 5 1 v' (Bts.str (L ++ Bts.low b (k + 1))).length (bytesV (Bts.str (L ++ Bts.low b (k + 1)))) := by
      rw [HLW.out];have e : Value.int IntKind.u8 (48 + (y : Int) % 2) = .int .u8 ((Bts.ch (y % 2 == 1)).toNat : Int) := by
       rw [Bts.ch_toNat, Bts.bit_val]; go_num
      have q := hown';rw [e] at q;simpa [bytesV] using q
     have HE := Lib.hid hE;have HO := Lib.hid hO;clear hE hO hown' hgrow HR2 HX2;go_wp2_with fail;go_roundw
     case rel => exact ⟨k + 1, by omega, by go_num, by rw [HY2.out]; go_num, HO, HE⟩
     case measure => simp [intOf]; omega
    ·obtain rfl : k = 8 := by omega
     go_wp2_with fail;go_roundw
     case rel => exact ⟨i + 1, by omega, by go_num, by rw [HTS.out, HLL.out]; exact HR2, HX2⟩
     case measure => simp [intOf]; omega
  ·obtain rfl : i = s.size := by omega
   obtain ⟨L, hL⟩ : ∃ L, Bts.str (Bts.allB (s.data.toList.take s.size)) = L := ⟨_, rfl⟩;have HBS : Hid (bs (Bts.allB s.data.toList) = ⟨L.toArray⟩) := Lib.hid (by rw [← hL, List.take_of_length_le (by simp)]; exact bytes_ext (by rw [bs_list]));rw [hL] at HR;clear hL;rcases ownsRow_slice HR.out with ⟨rfl, h0⟩ | ⟨g, cap, rfl⟩
   ·obtain rfl := List.eq_nil_of_length_eq_zero h0;have hcr : (convert 61 9 (.slice none 0 0)).run Tryd.prog wr = .ok (.string ⟨([] : List UInt8).toArray⟩) wr := by
     rw [run_convert_bytes_string wr 61 9 5 none 0 0 Tryd.underlying61 Tryd.underlying5 Tryd.underlying9];rfl
    go_wp2_with fail;go_ret;exact ⟨by rw [HBS.out]; rfl, HX.out⟩
   ·have hcr : (convert 61 9 (.slice (some ⟨g, 0, none⟩) L.length cap)).run Tryd.prog wr = .ok (.string ⟨L.toArray⟩) wr := by
     refine run_convert_bytes_back (P := Tryd.prog) wr 61 9 5 ⟨g, 0, none⟩ _ L Tryd.underlying61 Tryd.underlying5 Tryd.underlying9 (fun j hj => ?_);rw [add_plain, HR.out.cellAt _ (by omega), bytesV_get L _ hj]
    go_wp2_with fail;go_ret;exact ⟨by rw [HBS.out]; rfl, HX.out⟩
theorem str_get (L : List Bool) (s : ByteArray) (hs : s.data.toList = Bts.str L) (i : Nat) (h : i < s.size) (hL : i < L.length) : s[i].toNat = 48 + (if L[i] = true then 1 else 0) := by
 rw [← Bts.ch_toNat];congr 1
 have e : s[i] = s.data.toList[i]'(by simpa using h) := rfl;rw [e];simp only [hs, Bts.str, List.getElem_map]
theorem lowOf_any (L : List Bool) (w : World) (h : L.length ≤ 32) :
  Calls Tryd.prog 85 #[.string (bs L)] w fun e w' => e = .returned (.int .u32 (Bts.val L : Int)) ∧ w = w' := by
 have hz := bs_size L;have hs : (bs L).size ≤ 32 := by omega
 have HS := Lib.hid (bs_list L);have HZ := Lib.hid hz;clear hz;generalize bs L = s at *;go_enter Tryd.func85, Tryd.ntmps85
 go_wp2_with fail;go_loop [3, 4] (fun n c => ∃ d : Nat, d ≤ s.size ∧ c = .int .i64 ((d : Int) - 1) ∧ n = .int .u32 (Bts.val (L.drop d) : Int)) (fun _ c => (intOf c + 1).toNat)
 case atStart => exact ⟨s.size, by omega, rfl, by rw [List.drop_of_length_le (by rw [HZ.out]; exact Nat.le_refl _)]; rfl⟩
 case round =>
  obtain ⟨d, hd, rfl, rfl⟩ := hrel;by_cases hlt : 0 < d
  ·obtain ⟨j, rfl⟩ : ∃ j, d = j + 1 := ⟨d - 1, by omega⟩;have hjL : j < L.length := by have := HZ.out; omega
   have hb := str_get L s HS.out j hd hjL;have hv : Bts.val (L.drop j) = (if L[j] = true then 1 else 0) + 2 * Bts.val (L.drop (j + 1)) := by rw [List.drop_eq_getElem_cons hjL]; rfl
   have hvl : Bts.val (L.drop j) < 4294967296 := by
    refine Nat.lt_of_lt_of_le (Bts.val_lt _) (Nat.le_trans (Nat.pow_le_pow_right (n := 2) (by decide) (?_ : _ ≤ 32)) (by decide));rw [List.length_drop]; omega
   have hb2 : (if L[j] = true then 1 else 0) ≤ 1 := by split <;> omega
   obtain ⟨b, hbb⟩ : ∃ b, (if L[j] = true then 1 else 0) = b := ⟨_, rfl⟩;rw [hbb] at hb hv hb2;obtain ⟨V, hV⟩ : ∃ V, Bts.val (L.drop (j + 1)) = V := ⟨_, rfl⟩;rw [hV] at hv;have HV := Lib.hid hv;have hVl : b + 2 * V < 4294967296 := by rw [← hv]; exact hvl
   clear hv hvl hbb;rw [show (((j + 1 : Nat) : Int) - 1) = (j : Int) by omega, hV];clear hV;go_wp2_with fail;go_round
   case rel => exact ⟨j, by omega, rfl, by rw [HV.out]; go_num⟩
   case measure => first | (simp [intOf]; done) | (simp [intOf]; omega)
  ·obtain rfl : d = 0 := by omega
   rw [show (((0 : Nat) : Int) - 1) = -1 by omega];go_wp2_with fail;go_ret;exact ⟨by simp, rfl⟩
end Go.Proofs.YtnhbjgmfbcedaaaDoor
namespace Go.Proofs.YtnhbjgmfbcedaaaDoor
open Go.RowKit
/-- a reader's cells: its bits, its place, its error's number; the others by a function -/
def qc (T : ByteArray) (a e : Nat) (x : Nat → Value) : Array Value := #[.string T, .int .i64 (a : Int), x 2, x 3, .int .i64 (e : Int), x 5, x 6, x 7, x 8, x 9, x 10, x 11]
theorem qc_congr {T : ByteArray} {a e : Nat} {x y : Nat → Value} (h : ∀ i, i < 12 → x i = y i) : qc T a e x = qc T a e y := by
 unfold qc; rw [h 2 (by decide), h 3 (by decide), h 5 (by decide), h 6 (by decide), h 7 (by decide), h 8 (by decide), h 9 (by decide), h 10 (by decide), h 11 (by decide)]
def xset (x : Nat → Value) (i : Nat) (v : Value) : Nat → Value := fun j => if j = i then v else x j
theorem rok_any (Q a e : Nat) (T : ByteArray) (x : Nat → Value) (w : World) (hB : Bk w Q (qc T a e x)) :
  Calls Tryd.prog 42 #[.pointer (some ⟨Q, 0, none⟩)] w fun r w' => r = .returned (.bool (decide (e = 0))) ∧ w' = w := by
 have c4 := hB.cell 4;simp only [qc] at c4;clear hB;go_enter Tryd.func42, Tryd.ntmps42
 go_wp2_with fail;go_ret;exact ⟨ret_bool (by rw [Bool.eq_iff_iff]; simp), rfl⟩
theorem Bk.put1 {w : World} {Q a e : Nat} {T : ByteArray} {x : Nat → Value} (h : Bk w Q (qc T a e x)) (a' : Nat) : Bk (w.setCell ⟨Q, 1, none⟩ (.int .i64 (a' : Int))) Q (qc T a' e x) := by
 have := h.set_ 1 (.int .i64 (a' : Int)); simpa [qc] using this
theorem Bk.put4 {w : World} {Q a e : Nat} {T : ByteArray} {x : Nat → Value} (h : Bk w Q (qc T a e x)) (e' : Nat) : Bk (w.setCell ⟨Q, 4, none⟩ (.int .i64 (e' : Int))) Q (qc T a e' x) := by
 have := h.set_ 4 (.int .i64 (e' : Int)); simpa [qc] using this
theorem Bk.putx {w : World} {Q a e : Nat} {T : ByteArray} {x : Nat → Value} (h : Bk w Q (qc T a e x)) (i : Nat) (hi : i = 2 ∨ i = 5 ∨ i = 6 ∨ i = 7 ∨ i = 8 ∨ i = 9 ∨ i = 10 ∨ i = 11) (v : Value) : Bk (w.setCell ⟨Q, i, none⟩ v) Q (qc T a e (xset x i v)) := by
 have := h.set_ i v;rcases hi with rfl | rfl | rfl | rfl | rfl | rfl | rfl | rfl <;> simpa [qc, xset] using this
theorem keepQ {w : World} {Q i : Nat} {v : Value} : Keeps (fun k => k = Q) w (w.setCell ⟨Q, i, none⟩ v) := (Keeps.refl (fun k => k = Q) w).setCell (p := ⟨Q, i, none⟩) (.inl rfl) v
def fl (e c : Nat) : Nat := if e = 0 then c else e
theorem rfail_any (Q a e c : Nat) (T : ByteArray) (x : Nat → Value) (w : World) (hB : Bk w Q (qc T a e x)) :
  Calls Tryd.prog 49 #[.pointer (some ⟨Q, 0, none⟩), .int .i64 (c : Int)] w fun r w' => r = .returned (.tuple #[]) ∧ Bk w' Q (qc T a (fl e c) x) ∧ Keeps (fun k => k = Q) w w' := by
 have c4 := hB.cell 4;have f4 := hB.frozen 4;simp only [qc] at c4;by_cases he : e = 0
 ·subst he;have H := Lib.hid (hB.put4 c);clear hB;go_enter Tryd.func49, Tryd.ntmps49
  go_wp2_with fail;go_end0;exact ⟨rfl, H.out, keepQ⟩
 ·have hf : fl e c = e := if_neg he;have t1 : ((e : Int) == 0) = false := beq_eq_false_iff_ne.2 (by omega);rw [hf];have H := Lib.hid hB;clear hB;go_enter Tryd.func49, Tryd.ntmps49
  go_wp2_with fail;go_end0;exact ⟨rfl, H.out, Keeps.refl _ _⟩
theorem ralgn_any (Q a e : Nat) (T : ByteArray) (x : Nat → Value) (w : World) (hB : Bk w Q (qc T a e x)) (ha : a ≤ 100000000) :
  Calls Tryd.prog 50 #[.pointer (some ⟨Q, 0, none⟩)] w fun r w' => r = .returned (.tuple #[]) ∧ Bk w' Q (qc T ((a + 7) / 8 * 8) e x) ∧ Keeps (fun k => k = Q) w w' := by
 have c1 := hB.cell 1;have f1 := hB.frozen 1;simp only [qc] at c1;have e8 : ((a : Int) + 7) / 8 * 8 = (((a + 7) / 8 * 8 : Nat) : Int) := by omega
 have H := Lib.hid (hB.put1 ((a + 7) / 8 * 8));rw [← e8] at H;have H8 := Lib.hid e8;clear hB e8;go_enter Tryd.func50, Tryd.ntmps50
 go_wp2_with fail;go_end0;exact ⟨rfl, H.out, keepQ⟩
/-- the number that stands next -/
theorem bits_num (L : List UInt8) (a k : Nat) (_h : a + k ≤ 8 * L.length) : Bts.val (((Bts.allB L).drop a).take k) = Crc.num L / 2 ^ a % 2 ^ k := by
 rw [Bts.val_take, Bts.val_drop, val_allB]
theorem bs_extract (M : List Bool) (a b : Nat) (_h : a ≤ b) : (bs M).extract a b = bs ((M.drop a).take (b - a)) := by
 apply bytes_ext;rw [ex_list, bs_list, bs_list];simp [Bts.str, List.map_drop, List.map_take]
def GPost (Q : Nat) (T : ByteArray) (a e : Nat) (x : Nat → Value) (w : World) (g : Except Nat (Nat × Nat)) (r : Ending) (w' : World) : Prop :=
 Keeps (fun k => k = Q) w w' ∧ if e = 0 then
  match g with
  | .ok (n, a') => r = .returned (.int .i64 (n : Int)) ∧ Bk w' Q (qc T a' 0 x)
  | .error c => r = .returned (.int .i64 0) ∧ Bk w' Q (qc T a (c + 1) x)
 else r = .returned (.int .i64 0) ∧ Bk w' Q (qc T a e x)
set_option linter.unusedSimpArgs false in
set_option maxHeartbeats 4000000 in
theorem qget_any (Q a e k : Nat) (L : List UInt8) (x : Nat → Value) (w : World) (hB : Bk w Q (qc (bs (Bts.allB L)) a e x)) (hk : k ≤ 16) (ha : a ≤ 8 * L.length) (hL : L.length ≤ 300000) :
  Calls Tryd.prog 43 #[.pointer (some ⟨Q, 0, none⟩), .int .i64 (k : Int)] w fun r w' => GPost Q (bs (Bts.allB L)) a e x w (Inf.get L k a) r w' := by
 have HO := Lib.hid (fun (w : World) (h : Bk w Q (qc (bs (Bts.allB L)) a e x)) => rok_any Q a e (bs (Bts.allB L)) x w h);have hsz : (bs (Bts.allB L)).size = 8 * L.length := by rw [bs_size, Bts.allB_length]
 obtain ⟨T, hT⟩ : ∃ T, bs (Bts.allB L) = T := ⟨_, rfl⟩;rw [hT] at hB hsz HO ⊢;have HT := Lib.hid hT;have HB := Lib.hid hB;have c0 := hB.cell 0;have c1 := hB.cell 1;have f1 := hB.frozen 1;simp only [qc] at c0 c1;have HSZ := Lib.hid hsz;obtain ⟨Z, hZ⟩ : ∃ Z, T.size = Z := ⟨_, rfl⟩;clear hB hT;by_cases he : e = 0
 ·subst he;have hd : decide (0 = 0) = true := rfl;obtain ⟨A, hA⟩ : ∃ A, a + k = A := ⟨_, rfl⟩;have hAI : (a : Int) + (k : Int) = (A : Int) := by omega
  have wA : ∀ z, z = (A : Int) → IntKind.i64.wrap z = z := by rintro _ rfl; rw [IntKind.wrap_i64]; omega
  rw [hZ] at hsz;by_cases hlt : Z < A
  ·have t1 : decide ((Z : Int) < (A : Int)) = true := decide_eq_true (by omega);have HG : Hid (Inf.get L k a = .error 0) := Lib.hid (by unfold Inf.get; rw [if_neg (by omega)]);clear hsz hA;go_enter Tryd.func43, Tryd.ntmps43
   go_wp2_with fail;refine wp_regionQ (by kernel_rfl) (by kernel_rfl) ?_;refine wpQ_yes (by kernel_rfl) (fun K hK => ?_);go_simp;refine hK _ ?_;clear hK K;refine wpQ_yes (by kernel_rfl) (fun K hK => ?_);go_simp;refine ⟨_, HO.out _ HB.out.drew, hK _ ?_⟩;clear hK K;refine wpQ_yes (by kernel_rfl) (fun K hK => ?_);go_simp;refine hK _ ?_;clear hK K;refine wpQ_yes (by kernel_rfl) (fun K hK => ?_);go_simp;refine hK _ ?_;clear hK K;refine wpQ_yes (by kernel_rfl) (fun K hK => ?_);go_simp;refine hK _ ?_;clear hK K;refine wpQ_yes (by kernel_rfl) (fun K hK => ?_);go_simp;refine hK _ ?_;clear hK K;refine wpQ_yes (by kernel_rfl) (fun K hK => ?_);go_simp;refine hK _ ?_;clear hK K;refine wpQ_yes (by kernel_rfl) (fun K hK => ?_);go_simp;refine hK _ ?_;clear hK K;refine wpQ_yes (by kernel_rfl) (fun K hK => ?_);go_simp;refine hK _ ?_;clear hK K;refine wpQ_yes (by kernel_rfl) (fun K hK => ?_);go_simp;refine hK _ ?_;clear hK K;refine wpQ_yes (by kernel_rfl) (fun K hK => ?_);go_simp;refine hK _ ?_;clear hK K;refine wpQ_yes (by kernel_rfl) (fun K hK => ?_);go_simp;refine hK _ ?_;clear hK K;refine wpQ_yes (by kernel_rfl) (fun K hK => ?_);go_simp;refine hK _ ?_;clear hK K;refine wpQ_yes (by kernel_rfl) (fun K hK => ?_);go_simp;refine hK _ ?_;clear hK K;refine wpQ_yes (by kernel_rfl) (fun K hK => ?_);go_simp;refine hK _ ?_;clear hK K;refine wpQ_yes (by kernel_rfl) (fun K hK => ?_);go_simp;refine hK _ ?_;clear hK K;refine wpQ_yes (by kernel_rfl) (fun K hK => ?_);go_simp;refine hK _ ?_;clear hK K;refine wpQ_nil ?_
   go_wp2_with fail;refine (rfail_any Q a 0 1 T x _ HB.out.drew).mono ?_;rintro r w1 ⟨rfl, hB1, hK1⟩;have HB1 := Lib.hid hB1;have HK1 := Lib.hid hK1;clear hB1 hK1;go_wp2_with fail;go_ret;refine ⟨⟨HK1.out.os, HK1.out.tape, HK1.out.output, HK1.out.size, HK1.out.block⟩, ?_⟩;rw [if_pos rfl, HG.out];exact ⟨rfl, HB1.out⟩
  ·have t1 : decide ((Z : Int) < (A : Int)) = false := decide_eq_false (by omega);have hAL : A ≤ 8 * L.length := by omega
   have HG : Hid (Inf.get L k a = .ok (Crc.num L / 2 ^ a % 2 ^ k, A)) := Lib.hid (by unfold Inf.get; rw [if_pos (by omega), hA]);obtain ⟨M, hM⟩ : ∃ M, ((Bts.allB L).drop a).take k = M := ⟨_, rfl⟩;have hML : M.length ≤ 32 := by rw [← hM, List.length_take]; omega
   have hext : T.extract a A = bs M := by rw [← HT.out, bs_extract _ _ _ (by omega), ← hM, show A - a = k by omega]
   have hval : Bts.val M = Crc.num L / 2 ^ a % 2 ^ k := by rw [← hM]; exact bits_num L a k (by omega)
   obtain ⟨nn, hnn⟩ : ∃ nn, Bts.val M = nn := ⟨_, rfl⟩;have hnb : nn < 65536 := by
    rw [← hnn, hval];exact Nat.lt_of_lt_of_le (Nat.mod_lt _ (Nat.two_pow_pos _)) (Nat.pow_le_pow_right (by decide) hk)
   have HV : Hid (Crc.num L / 2 ^ a % 2 ^ k = nn) := Lib.hid (hval.symm.trans hnn);have HLow := Lib.hid (fun (w : World) => still_of (lowOf_any M w hML));rw [hnn] at HLow;have wn : ∀ z, z = (nn : Int) → IntKind.i64.wrap z = z := by rintro _ rfl; rw [IntKind.wrap_i64]; omega
   have hBA := HB.out.drew.put1 A;have HBA := Lib.hid hBA;have k0 := hBA.cell 0;have k1 := hBA.cell 1;simp only [qc] at k0 k1;have hsub : (A : Int) - (k : Int) = (a : Int) := by omega
   have wa : ∀ z, z = (a : Int) → IntKind.i64.wrap z = z := by rintro _ rfl; rw [IntKind.wrap_i64]; omega
   have haA : a ≤ A := by omega
   have haA2 : (a : Int) ≤ (A : Int) := by omega
   have hAZ : A ≤ Z := by omega
   have hAZ2 : (A : Int) ≤ (Z : Int) := by omega
   have ha0 : (0 : Int) ≤ (a : Int) := by omega
   have hat : ((a : Nat) : Int).toNat = a := by omega
   have hAt : ((A : Nat) : Int).toNat = A := by omega
   clear hsz hA hM hval hnn hBA;go_enter Tryd.func43, Tryd.ntmps43
   go_wp2_with fail;refine wp_regionQ (by kernel_rfl) (by kernel_rfl) ?_;refine wpQ_yes (by kernel_rfl) (fun K hK => ?_);go_simp;refine hK _ ?_;clear hK K;refine wpQ_yes (by kernel_rfl) (fun K hK => ?_);go_simp;refine ⟨_, HO.out _ HB.out.drew, hK _ ?_⟩;clear hK K;refine wpQ_yes (by kernel_rfl) (fun K hK => ?_);go_simp;refine hK _ ?_;clear hK K;refine wpQ_yes (by kernel_rfl) (fun K hK => ?_);go_simp;refine hK _ ?_;clear hK K;refine wpQ_yes (by kernel_rfl) (fun K hK => ?_);go_simp;refine hK _ ?_;clear hK K;refine wpQ_yes (by kernel_rfl) (fun K hK => ?_);go_simp;refine hK _ ?_;clear hK K;refine wpQ_yes (by kernel_rfl) (fun K hK => ?_);go_simp;refine hK _ ?_;clear hK K;refine wpQ_yes (by kernel_rfl) (fun K hK => ?_);go_simp;refine hK _ ?_;clear hK K;refine wpQ_yes (by kernel_rfl) (fun K hK => ?_);go_simp;refine hK _ ?_;clear hK K;refine wpQ_yes (by kernel_rfl) (fun K hK => ?_);go_simp;refine hK _ ?_;clear hK K;refine wpQ_yes (by kernel_rfl) (fun K hK => ?_);go_simp;refine hK _ ?_;clear hK K;refine wpQ_yes (by kernel_rfl) (fun K hK => ?_);go_simp;refine hK _ ?_;clear hK K;refine wpQ_yes (by kernel_rfl) (fun K hK => ?_);go_simp;refine hK _ ?_;clear hK K;refine wpQ_yes (by kernel_rfl) (fun K hK => ?_);go_simp;refine hK _ ?_;clear hK K;refine wpQ_yes (by kernel_rfl) (fun K hK => ?_);go_simp;refine hK _ ?_;clear hK K;refine wpQ_yes (by kernel_rfl) (fun K hK => ?_);go_simp;refine hK _ ?_;clear hK K;refine wpQ_yes (by kernel_rfl) (fun K hK => ?_);go_simp;refine hK _ ?_;clear hK K;refine wpQ_nil ?_
   go_wp2_with fail;refine wp_world (fun wz => Bk wz Q (qc T A 0 x) ∧ Keeps (fun k => k = Q) w wz) ⟨HBA.out, (Keeps.refl (fun k => k = Q) w).drew.setCell (p := ⟨Q, 1, none⟩) (.inl rfl) _⟩ ?_;rintro w2 ⟨h2, hK2⟩;have H2 := Lib.hid h2;have HK2 := Lib.hid hK2;have j0 := h2.cell 0;have j1 := h2.cell 1;simp only [qc] at j0 j1;clear h2 hK2 k0 k1 c0 c1 f1 t1 hlt;refine wp_regionQ (by kernel_rfl) (by kernel_rfl) ?_;refine wpQ_yes (by kernel_rfl) (fun K hK => ?_);go_simp;refine hK _ ?_;clear hK K;refine wpQ_yes (by kernel_rfl) (fun K hK => ?_);go_simp;refine hK _ ?_;clear hK K;refine wpQ_yes (by kernel_rfl) (fun K hK => ?_);go_simp;refine hK _ ?_;clear hK K;refine wpQ_yes (by kernel_rfl) (fun K hK => ?_);go_simp;refine hK _ ?_;clear hK K;refine wpQ_yes (by kernel_rfl) (fun K hK => ?_);go_simp;refine hK _ ?_;clear hK K;refine wpQ_yes (by kernel_rfl) (fun K hK => ?_);go_simp;refine hK _ ?_;clear hK K;refine wpQ_yes (by kernel_rfl) (fun K hK => ?_);go_simp;refine hK _ ?_;clear hK K;refine wpQ_yes (by kernel_rfl) (fun K hK => ?_);go_simp;refine hK _ ?_;clear hK K;refine wpQ_yes (by kernel_rfl) (fun K hK => ?_);go_simp;refine hK _ ?_;clear hK K;refine wpQ_yes (by kernel_rfl) (fun K hK => ?_);go_simp;refine hK _ ?_;clear hK K;refine wpQ_yes (by kernel_rfl) (fun K hK => ?_);go_simp;refine hK _ ?_;clear hK K;refine wpQ_yes (by kernel_rfl) (fun K hK => ?_);go_simp;refine hK _ ?_;clear hK K;refine wpQ_yes (by kernel_rfl) (fun K hK => ?_);go_simp;refine hK _ ?_;clear hK K;refine wpQ_yes (by kernel_rfl) (fun K hK => ?_)
   go_simp;refine hK _ ?_;clear hK K;refine wpQ_yes (by kernel_rfl) (fun K hK => ?_);go_simp;refine hK _ ?_;clear hK K;refine wpQ_yes (by kernel_rfl) (fun K hK => ?_);go_simp;refine ⟨_, HLow.out _, hK _ ?_⟩;clear hK K;refine wpQ_yes (by kernel_rfl) (fun K hK => ?_);go_simp;refine hK _ ?_;clear hK K;refine wpQ_yes (by kernel_rfl) (fun K hK => ?_);go_simp;refine hK _ ?_;clear hK K;refine wpQ_nil ?_;go_wp2_with fail;go_ret;refine ⟨HK2.out.drew, ?_⟩;rw [if_pos rfl, HG.out, HV.out];exact ⟨rfl, H2.out⟩
 ·have hd : decide (e = 0) = false := decide_eq_false he;have hfl : fl e 1 = e := if_neg he;go_enter Tryd.func43, Tryd.ntmps43
  go_wp2_with fail;refine wp_regionQ (by kernel_rfl) (by kernel_rfl) ?_;refine wpQ_yes (by kernel_rfl) (fun K hK => ?_);go_simp;refine hK _ ?_;clear hK K;refine wpQ_yes (by kernel_rfl) (fun K hK => ?_);go_simp;refine ⟨_, HO.out _ HB.out.drew, hK _ ?_⟩;clear hK K;refine wpQ_yes (by kernel_rfl) (fun K hK => ?_);go_simp;refine hK _ ?_;clear hK K;refine wpQ_yes (by kernel_rfl) (fun K hK => ?_);go_simp;refine hK _ ?_;clear hK K;refine wpQ_no (by kernel_rfl) ?_;(try simp only [Act.put, xa, xb, xc, xd, xe, xf]);refine wpQ_no (by kernel_rfl) ?_;(try simp only [Act.put, xa, xb, xc, xd, xe, xf]);refine wpQ_no (by kernel_rfl) ?_;(try simp only [Act.put, xa, xb, xc, xd, xe, xf]);refine wpQ_no (by kernel_rfl) ?_;(try simp only [Act.put, xa, xb, xc, xd, xe, xf]);refine wpQ_no (by kernel_rfl) ?_;(try simp only [Act.put, xa, xb, xc, xd, xe, xf]);refine wpQ_no (by kernel_rfl) ?_;(try simp only [Act.put, xa, xb, xc, xd, xe, xf]);refine wpQ_no (by kernel_rfl) ?_;(try simp only [Act.put, xa, xb, xc, xd, xe, xf]);refine wpQ_no (by kernel_rfl) ?_;(try simp only [Act.put, xa, xb, xc, xd, xe, xf]);refine wpQ_no (by kernel_rfl) ?_;(try simp only [Act.put, xa, xb, xc, xd, xe, xf]);refine wpQ_no (by kernel_rfl) ?_;(try simp only [Act.put, xa, xb, xc, xd, xe, xf]);refine wpQ_no (by kernel_rfl) ?_;(try simp only [Act.put, xa, xb, xc, xd, xe, xf]);refine wpQ_no (by kernel_rfl) ?_;(try simp only [Act.put, xa, xb, xc, xd, xe, xf]);refine wpQ_yes (by kernel_rfl) (fun K hK => ?_);go_simp;refine hK _ ?_;clear hK K
  refine wpQ_nil ?_;go_wp2_with fail;refine (rfail_any Q a e 1 T x _ HB.out.drew).mono ?_;rintro r w1 ⟨rfl, hB1, hK1⟩;rw [hfl] at hB1;have HB1 := Lib.hid hB1;have HK1 := Lib.hid hK1;clear hB1 hK1;go_wp2_with fail;go_ret;refine ⟨⟨HK1.out.os, HK1.out.tape, HK1.out.output, HK1.out.size, HK1.out.block⟩, ?_⟩;rw [if_neg he];exact ⟨rfl, HB1.out⟩
end Go.Proofs.YtnhbjgmfbcedaaaDoor
namespace Go.Proofs.YtnhbjgmfbcedaaaDoor
open Go.RowKit
namespace Inf
/-- the head of a zipped text -/
def headOk (s : ByteArray) : Prop := 2 ≤ s.size ∧ (s.data.toList.getD 0 0).toNat % 16 = 8 ∧ (s.data.toList.getD 0 0).toNat / 16 ≤ 7 ∧ ((s.data.toList.getD 0 0).toNat * 256 + (s.data.toList.getD 1 0).toNat) % 31 = 0 ∧ (s.data.toList.getD 1 0).toNat / 32 % 2 = 0
instance (s : ByteArray) : Decidable (headOk s) := by unfold headOk; infer_instance
noncomputable def unz (s : ByteArray) (most : Int) : Except Nat (List UInt8) :=
  if most < 0 ∨ 300000 < most ∨ 300000 < s.size then .error 1 else
  if ¬ headOk s then .error 0 else
  match infl (s.extract 2 s.size) most with
  | .error c => .error c
  | .ok (out, used, _) => if s.size ≠ 2 + used + 4 then .error 0 else if valN (s.data.toList.drop (2 + used)) ≠ Adl.adler out then .error 3 else .ok out
end Inf
theorem head_is (s : ByteArray) (h1 : 1 < s.size) : Inf.headOk s ↔ (s[0].toNat % 16 = 8 ∧ s[0].toNat / 16 ≤ 7 ∧ (s[0].toNat * 256 + s[1].toNat) % 31 = 0 ∧ s[1].toNat / 32 % 2 = 0) := by
  have e0 : s.data.toList.getD 0 0 = s[0] := by rw [List.getD, List.getElem?_eq_getElem (by rw [bytes_len]; omega)]; rfl
  have e1 : s.data.toList.getD 1 0 = s[1] := by rw [List.getD, List.getElem?_eq_getElem (by rw [bytes_len]; omega)]; rfl
  unfold Inf.headOk;rw [e0, e1];exact ⟨fun h => h.2, fun h => ⟨h1, h⟩⟩
def UoPost (r : Except Nat (List UInt8)) (e : Ending) : Prop :=
  match r with
  | .ok out => e = .returned (.tuple #[.string (tb out), .int .i64 0])
  | .error c => e = .returned (.tuple #[.string ⟨#[]⟩, .int .i64 ((c + 1 : Nat) : Int)])
end Go.Proofs.YtnhbjgmfbcedaaaDoor
namespace Go.Proofs.YtnhbjgmfbcedaaaDoor
open Go.RowKit
theorem tb_self (s : ByteArray) : tb s.data.toList = s := bts_ext (by rw [tb_list])
theorem ba_tail (l : List UInt8) : (⟨(120 :: 156 :: l).toArray⟩ : ByteArray).extract 2 (⟨(120 :: 156 :: l).toArray⟩ : ByteArray).size = ⟨l.toArray⟩ := by
  apply bts_ext;rw [ByteArray.data_extract, Array.toList_extract];show ((120 :: 156 :: l).take (l.length + 1 + 1)).drop 2 = l;rw [List.take_of_length_le (by simp)];rfl
theorem zipL_length (l t : List UInt8) : (zipL l t).length = l.length + 6 := by unfold zipL big4; simp
theorem unz_zip {l t : List UInt8} (h : Reads l t) (hl : l.length + 6 ≤ 300000) {most : Nat} (hm : t.length ≤ most) (hmm : most ≤ 300000) : Inf.unz (⟨(zipL l t).toArray⟩ : ByteArray) (most : Int) = .ok t := by
  have hsz : (⟨(zipL l t).toArray⟩ : ByteArray).size = l.length + 6 := zipL_length l t;obtain ⟨bl, hi⟩ := h.infl (big4 (Adl.adler t)) (by show l.length + 4 ≤ 300000; omega) hm hmm;have hex : (⟨(zipL l t).toArray⟩ : ByteArray).extract 2 (⟨(zipL l t).toArray⟩ : ByteArray).size = ⟨(l ++ big4 (Adl.adler t)).toArray⟩ := ba_tail _;have hh : Inf.headOk (⟨(zipL l t).toArray⟩ : ByteArray) := by
    refine ⟨by rw [hsz]; omega, ?_⟩;show (120 : Nat) % 16 = 8 ∧ 120 / 16 ≤ 7 ∧ (120 * 256 + 156) % 31 = 0 ∧ 156 / 32 % 2 = 0;decide
  have hdrop : (⟨(zipL l t).toArray⟩ : ByteArray).data.toList.drop (2 + l.length) = big4 (Adl.adler t) := by
    show (120 :: 156 :: (l ++ big4 (Adl.adler t))).drop (2 + l.length) = _;rw [show 2 + l.length = l.length + 1 + 1 by omega, List.drop_succ_cons, List.drop_succ_cons, List.drop_left]
  unfold Inf.unz;rw [if_neg (by rw [hsz]; omega), if_neg (fun q => q hh), hex, hi];simp only [];rw [if_neg (by rw [hsz]; omega), hdrop, valN_big4 _ (adl_lt t), if_neg (fun q => q rfl)]
end Go.Proofs.YtnhbjgmfbcedaaaDoor
namespace Go.Proofs.YtnhbjgmfbcedaaaDoor
open Go.RowKit
def natA (l : List Nat) : Array Value := (l.map fun z => Value.int .i64 ((z : Nat) : Int)).toArray
theorem natA_get (l : List Nat) (i : Nat) (hi : i < l.length) : (natA l)[i]? = some (.int .i64 ((l.getD i 0 : Nat) : Int)) := by
 unfold natA; simp [List.getD, hi]
theorem cs_natA {w : World} {t : TypeId} (l : List Nat) (A : Array Value) (n : Nat) (hA : A = natA l) (hn : l.length = n) : Cs (w.alloc (.cells A t)) w.heap.size n .i64 (fun i => ((l.getD i 0 : Nat) : Int)) := by
 intro i hi;subst hA;rw [World.cell?_alloc_at _ _ _ _ rfl, World.frozen?_alloc_at _ _ _ _ rfl];exact ⟨natA_get l i (by omega), rfl⟩
theorem qlens_any (w : World) : Calls Tryd.prog 60 #[] w fun e w' => ∃ C, e = .returned (.slice (some ⟨C, 0, none⟩) 29 29) ∧ w.heap.size ≤ C ∧ Cs w' C 29 .i64 (fun i => ((Inf.lensL.getD i 0 : Nat) : Int)) ∧ Ext w w' := by
 go_enter Tryd.func60, Tryd.ntmps60
 go_wp2_with fail;go_ret;exact ⟨_, rfl, Nat.le_refl _, cs_natA Inf.lensL _ 29 rfl rfl, (Ext.refl w).alloc _⟩
theorem qdists_any (w : World) : Calls Tryd.prog 61 #[] w fun e w' => ∃ C, e = .returned (.slice (some ⟨C, 0, none⟩) 30 30) ∧ w.heap.size ≤ C ∧ Cs w' C 30 .i64 (fun i => ((Inf.distsL.getD i 0 : Nat) : Int)) ∧ Ext w w' := by
 go_enter Tryd.func61, Tryd.ntmps61
 go_wp2_with fail;go_ret;exact ⟨_, rfl, Nat.le_refl _, cs_natA Inf.distsL _ 30 rfl rfl, (Ext.refl w).alloc _⟩
theorem lensB_is : ∀ k, k < 29 → Inf.lensB.getD k 0 = if k < 8 ∨ k = 28 then 0 else k / 4 - 1 := by decide
theorem distsB_is : ∀ k, k < 30 → Inf.distsB.getD k 0 = if k < 4 then 0 else k / 2 - 1 := by decide
theorem qlenBits_any (k : Nat) (hk : k < 29) (w : World) : Calls Tryd.prog 63 #[.int .i64 (k : Int)] w fun e w' => e = .returned (.int .i64 ((Inf.lensB.getD k 0 : Nat) : Int)) ∧ w' = w := by
 have hb := lensB_is k hk;obtain ⟨z, hz⟩ : ∃ z, Inf.lensB.getD k 0 = z := ⟨_, rfl⟩;rw [hz] at hb ⊢;have HB := Lib.hid hb;clear hb hz;go_enter Tryd.func63, Tryd.ntmps63
 by_cases h8 : k < 8
 ·have t1 : decide ((k : Int) < 8) = true := decide_eq_true (by omega);go_wp2_with fail;go_ret;exact ⟨by rw [HB.out, if_pos (.inl h8)]; rfl, rfl⟩
 ·have t1 : decide ((k : Int) < 8) = false := decide_eq_false (by omega);by_cases h28 : k = 28
  ·subst h28;go_wp2_with fail;go_ret;exact ⟨by rw [HB.out, if_pos (.inr trivial)]; rfl, rfl⟩
  ·have t2 : ((k : Int) == 28) = false := beq_eq_false_iff_ne.2 (by omega);have hq : (k : Int).tdiv 4 = ((k / 4 : Nat) : Int) := by rw [Int.tdiv_eq_ediv_of_nonneg (by omega)]; rfl
   have hd : ((k / 4 : Nat) : Int) - 1 = ((k / 4 - 1 : Nat) : Int) := by omega
   obtain ⟨d, hdd⟩ : ∃ d, k / 4 - 1 = d := ⟨_, rfl⟩;have hdl : d ≤ 10 := by omega
   go_wp2_with fail;go_ret;refine ⟨ret_int ?_, rfl⟩;rw [HB.out, if_neg (by omega), hdd];omega
theorem qdistBits_any (k : Nat) (hk : k < 30) (w : World) : Calls Tryd.prog 64 #[.int .i64 (k : Int)] w fun e w' => e = .returned (.int .i64 ((Inf.distsB.getD k 0 : Nat) : Int)) ∧ w' = w := by
 have hb := distsB_is k hk;obtain ⟨z, hz⟩ : ∃ z, Inf.distsB.getD k 0 = z := ⟨_, rfl⟩;rw [hz] at hb ⊢;have HB := Lib.hid hb;clear hb hz;go_enter Tryd.func64, Tryd.ntmps64
 by_cases h8 : k < 4
 ·have t1 : decide ((k : Int) < 4) = true := decide_eq_true (by omega);go_wp2_with fail;go_ret;exact ⟨by rw [HB.out, if_pos h8]; rfl, rfl⟩
 ·have t1 : decide ((k : Int) < 4) = false := decide_eq_false (by omega);go_wp2_with fail;go_ret;refine ⟨ret_int ?_, rfl⟩;rw [HB.out, if_neg h8];omega
end Go.Proofs.YtnhbjgmfbcedaaaDoor
