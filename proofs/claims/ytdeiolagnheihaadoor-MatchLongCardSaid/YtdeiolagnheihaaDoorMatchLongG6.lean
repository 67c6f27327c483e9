/-
  A reader of bits: contracts in terms of its text's number and its place.
  errors.Is at a sentinel: of a sentinel, of an api.Fault that bears one. The library's own text is walked.
  errors.As at a target of type **api.Fault: of nil, of a sentinel, of an api.Fault. The library's own text is walked.
  Arguments and package variables, opened to cells: slices of records, sentinels of errors.
  plain.Code: the number of an error, and its place.
  Get where it cannot: too wide, or no more bits.
  What lzw.Unpack holds while it goes: reader, words, text.
-/
import Derived.Test.YtdeiolagnheihaaDoorMatchLongG5
import Derived.Test.YtdeiolagnheihaaDoorMatchLongG1
import Derived.LaidEql
import Derived.Stop.Asserts
import Derived.RowKitTokens
import Derived.Deep.Fields
import Derived.Stop.LaidErr
import Derived.LaidSub
import Derived.ProofKit
import Derived.OpenShut
import Derived.StillTailTactics
import Derived.Outline
namespace Go.Proofs.YtdeiolagnheihaaDoor
open Go.RowKit
set_option maxRecDepth 100000
structure RAt (w : World) (B o : Nat) (s : ByteArray) (a : Nat) : Prop where
  c0 : w.cell? ⟨B, o, none⟩ = some (.string s)
  c1 : w.cell? ⟨B, o + 1, none⟩ = some (.int .i64 (a : Int))
  f1 : w.frozen? ⟨B, o + 1, none⟩ = false
  size : s.size ≤ 1099511627776
  le : a ≤ 8 * s.size + 8
structure RStep (w w' : World) (B o : Nat) : Prop where
  keeps : Keeps (fun k => k = B) w w'
  cells : ∀ j, j ≠ o + 1 → w'.cell? ⟨B, j, none⟩ = w.cell? ⟨B, j, none⟩
  marks : ∀ j, w'.frozen? ⟨B, j, none⟩ = w.frozen? ⟨B, j, none⟩
theorem RStep.refl (w : World) (B o : Nat) : RStep w w B o := ⟨Keeps.refl _ _, fun _ _ => rfl, fun _ => rfl⟩
theorem RStep.trans {a b c : World} {B o : Nat} (h : RStep a b B o) (k : RStep b c B o) : RStep a c B o :=
  ⟨h.keeps.trans k.keeps fun _ _ q => q, fun j h1 => (k.cells j h1).trans (h.cells j h1), fun j => (k.marks j).trans (h.marks j)⟩
theorem RAt.drewN {w : World} {B o a : Nat} {s : ByteArray} (h : RAt w B o s a) (m : Nat) : RAt (w.drewN m) B o s a := ⟨h.c0, h.c1, h.f1, h.size, h.le⟩
theorem RStep.drewN {w w' : World} {B o : Nat} (h : RStep w w' B o) (m : Nat) : RStep w (w'.drewN m) B o := ⟨h.keeps.drewN m, h.cells, h.marks⟩
theorem RAt.put {w : World} {B o a : Nat} {s : ByteArray} (h : RAt w B o s a) (a' : Nat) (h' : a' ≤ 8 * s.size + 8) :
    RAt (w.setCell ⟨B, o + 1, none⟩ (.int .i64 (a' : Int))) B o s a' ∧ RStep w (w.setCell ⟨B, o + 1, none⟩ (.int .i64 (a' : Int))) B o := by
  have a3 : (⟨B, o + 1, none⟩ : Addr) ≠ ⟨B, o, none⟩ := by intro e; injection e with _ e2; omega
  refine ⟨⟨(World.cell?_setCell_other _ _ _ _ a3).trans h.c0, World.cell?_setCell_same _ _ _ h.c1, ?_, h.size, h'⟩, ⟨(Keeps.refl (fun k => k = B) w).setCell (.inl rfl) _, ?_, ?_⟩⟩
  · rw [World.frozen?_setCell]; exact h.f1
  · intro j h2
    exact World.cell?_setCell_other _ _ _ _ (by intro e; injection e with _ e2; exact h2 e2.symm)
  · intro j; rw [World.frozen?_setCell]
theorem left_calls (B o a : Nat) (s : ByteArray) (w : World) (hR : RAt w B o s a) :
    Calls Tryd.prog 70 #[.pointer (some ⟨B, o, none⟩)] w fun e w' => e = .returned (.int .i64 (8 * (s.size : Int) - a)) ∧ ∃ m, w' = w.drewN m := by
  obtain ⟨c0, c1, f1, hs, hle⟩ := hR
  go_enter Tryd.func70, Tryd.ntmps70
  go_wp2
  go_quiet (fail)
  go_wp2
  go_ret
  exact ⟨rfl, _, rfl⟩
theorem at_calls (B o a : Nat) (s : ByteArray) (w : World) (hR : RAt w B o s a) :
    Calls Tryd.prog 47 #[.pointer (some ⟨B, o, none⟩)] w fun e w' => e = .returned (.int .i64 (a : Int)) ∧ w = w' := by
  obtain ⟨c0, c1, f1, hs, hle⟩ := hR
  go_enter Tryd.func47, Tryd.ntmps47
  go_wp2
  go_ret
  exact ⟨rfl, rfl⟩
theorem newReader_calls (s : ByteArray) (w : World) (hs : s.size ≤ 1099511627776) :
    Calls Tryd.prog 44 #[.string s] w fun e w' => e = .returned (.pointer (some ⟨w.heap.size, 0, none⟩)) ∧ RAt w' w.heap.size 0 s 0 ∧ Ext w w' := by
  go_enter Tryd.func44, Tryd.ntmps44
  go_wp2
  go_ret
  refine ⟨rfl, ⟨?_, ?_, ?_, hs, by omega⟩, ?_⟩
  · rw [World.cell?_alloc_at _ _ _ _ rfl]; rfl
  · rw [World.cell?_alloc_at _ _ _ _ rfl]; rfl
  · rw [World.frozen?_alloc_at _ _ _ _ rfl]
  · exact ((Below.refl _ _).alloc (Nat.le_refl _) _)
theorem byte_bit (l : List UInt8) (p : Nat) (hj : p / 8 < l.length) : l[p / 8].toNat / 2 ^ (p % 8) % 2 = Crc.num l / 2 ^ p % 2 := by
  rw [num_byte l (p / 8) hj, show (256 : Nat) ^ (p / 8) = 2 ^ (8 * (p / 8)) by rw [Nat.pow_mul], show (256 : Nat) = 2 ^ 8 from rfl]
  have h : ∀ x : Nat, x % 2 ^ 8 / 2 ^ (p % 8) % 2 = x / 2 ^ (p % 8) % 2 := by
    intro x
    have h1 : (x % 2 ^ 8).testBit (p % 8) = x.testBit (p % 8) := by rw [Nat.testBit_mod_two_pow]; have : p % 8 < 8 := by omega
                                                                    simp [this]
    rw [Nat.testBit_eq_decide_div_mod_eq, Nat.testBit_eq_decide_div_mod_eq, decide_eq_decide] at h1
    omega
  rw [h, Nat.div_div_eq_div_mul, ← Nat.pow_add, show 8 * (p / 8) + p % 8 = p by omega]
theorem get_next (N a i y t : Nat) (hi : i < 32) (hy : y < 256) (hb : y / 2 ^ t % 2 = N / 2 ^ (a + i) % 2) :
    bits BinOp.or IntKind.u32 ((N : Int) / 2 ^ a % 2 ^ i) (bits BinOp.and IntKind.u8 ((y : Int) / 2 ^ t) 1 % 4294967296 * 2 ^ i % 4294967296) = ((N / 2 ^ a % 2 ^ (i + 1) : Nat) : Int) := by
  have hp : 2 ^ i ≤ 2 ^ 31 := Nat.pow_le_pow_right (by decide) (by omega)
  have e1 : bits BinOp.and IntKind.u8 ((y : Int) / 2 ^ t) 1 = ((y / 2 ^ t % 2 : Nat) : Int) := by
    have : y / 2 ^ t < 256 := Nat.lt_of_le_of_lt (Nat.div_le_self _ _) hy
    rw [show (y : Int) / 2 ^ t = ((y / 2 ^ t : Nat) : Int) by simp, show (1 : Int) = ((1 : Nat) : Int) from rfl, u8_and_nat _ _ this (by decide), Nat.and_one_is_mod]
  rw [e1, hb]
  have e2 : ((N / 2 ^ (a + i) % 2 : Nat) : Int) % 4294967296 * 2 ^ i % 4294967296 = ((N / 2 ^ a / 2 ^ i % 2 * 2 ^ i : Nat) : Int) := by
    rw [Nat.div_div_eq_div_mul, ← Nat.pow_add]
    have hb2 : N / 2 ^ (a + i) % 2 < 2 := Nat.mod_lt _ (by decide)
    generalize N / 2 ^ (a + i) % 2 = b at *
    rw [show (2 : Int) ^ i = ((2 ^ i : Nat) : Int) by simp]
    generalize 2 ^ i = q at *
    rcases (show b = 0 ∨ b = 1 by omega) with h | h <;> subst h <;> omega
  have hm : N / 2 ^ a % 2 ^ i < 2 ^ i := Nat.mod_lt _ (Nat.two_pow_pos i)
  rw [e2, show (N : Int) / 2 ^ a % 2 ^ i = ((N / 2 ^ a % 2 ^ i : Nat) : Int) by simp, mod_next]
  generalize N / 2 ^ a = A at *
  have hb2 : A / 2 ^ i % 2 < 2 := Nat.mod_lt _ (by decide)
  have hB : A / 2 ^ i % 2 * 2 ^ i ≤ 2 ^ i := by
    generalize A / 2 ^ i % 2 = b at *
    rcases (show b = 0 ∨ b = 1 by omega) with h | h <;> subst h <;> omega
  rw [u32_or_nat _ _ (by omega) (by omega)]
  have h := Nat.two_pow_add_eq_or_of_lt (i := i) (b := A % 2 ^ i) hm (A / 2 ^ i % 2)
  rw [Nat.mul_comm] at h
  rw [Nat.or_comm, ← h, Nat.add_comm]
theorem get_in (B o a k : Nat) (s : ByteArray) (w : World) (hR : RAt w B o s a) (hk : k ≤ 32) (ha : a + k ≤ 8 * s.size) :
    Calls Tryd.prog 46 #[.pointer (some ⟨B, o, none⟩), .int .i64 (k : Int)] w fun e w' => e = .returned (.tuple #[.int .u32 ((Crc.num s.data.toList / 2 ^ a % 2 ^ k : Nat) : Int), .nilIface]) ∧ RAt w' B o s (a + k) ∧ RStep w w' B o := by
  have hle := hR.le
  have hs := hR.size
  have HR := Lib.hid hR
  clear hR
  go_enter Tryd.func46, Tryd.ntmps46
  go_wp2_with fail
  refine (left_calls B o a s _ HR.out).mono ?_
  rintro e w1 ⟨rfl, m, rfl⟩
  go_wp2_with fail
  go_loopw [6, 7, 21] (fun x _ c wr => ∃ (i : Nat), i ≤ k ∧ x = .int .u32 ((Crc.num s.data.toList / 2 ^ a % 2 ^ i : Nat) : Int) ∧ c = .int .i64 i ∧ Hid (RAt wr B o s (a + i)) ∧ Hid (RStep w wr B o)) (fun _ _ c _ => k - (intOf c).toNat)
  case atStart =>
    refine ⟨0, by omega, by simp [Nat.mod_one], rfl, ?_, ?_⟩
    · exact Lib.hid (HR.out.drewN m)
    · exact Lib.hid ((RStep.refl _ _ _).drewN m)
  case round =>
    obtain ⟨i, hi, rfl, rfl, HA, HS⟩ := hrel
    by_cases hlt : i < k
    · obtain ⟨c0, c1, f1, _, _⟩ := HA.out
      have hj : (a + i) / 8 < s.size := by omega
      have hj1 : (0 : Int) ≤ ((a : Int) + i) / 8 := by omega
      have hj2 : ((a : Int) + i) / 8 < (s.size : Int) := by omega
      go_wp2_with fail
      go_region
      go_wp2
      go_roundw
      case rel =>
        have hb := byte_bit s.data.toList (a + i) (by simpa using hj)
        refine ⟨i + 1, by omega, val_int ?_, by go_num, ?_, ?_⟩
        · exact get_next (Crc.num s.data.toList) a i _ _ (by omega) (UInt8.toNat_lt _) (by simp at hb; exact hb)
        · have q := (HA.out.put (a + i + 1) (by omega)).1.drewN 1
          rw [show ((a + i + 1 : Nat) : Int) = (a : Int) + i + 1 by omega] at q
          exact q
        · have q := (HA.out.put (a + i + 1) (by omega)).2
          rw [show ((a + i + 1 : Nat) : Int) = (a : Int) + i + 1 by omega] at q
          exact (HS.out.trans q).drewN 1
      case measure => simp [intOf]; omega
    · obtain rfl : i = k := by omega
      go_wp2_with fail
      exact bodyPost_ret (v := .tuple #[.int .u32 ((Crc.num s.data.toList / 2 ^ a % 2 ^ i : Nat) : Int), .nilIface]) (by simp [results, Tryd.results46, go_sem, *]) rfl ⟨rfl, HA.out, HS.out⟩
end Go.Proofs.YtdeiolagnheihaaDoor
namespace Go.Proofs.YtdeiolagnheihaaDoor
open Go.RowKit Go.Extern.Stop Go.Stop Go.Extern
set_option maxRecDepth 100000
@[irreducible] noncomputable def GN : Nat := Tryd.prog.globals.size
noncomputable abbrev hdl (t : Nat) : Value := .pointer (some ⟨GN, t, none⟩)
theorem typeOfE (v : Value) (w : World) : (Extern.ReflectliteType.typeOf #[.iface 180 v]).run Tryd.prog w = .ok (.iface 166 (.agg #[hdl 180])) w := by kernel_rfl
theorem compE (w : World) : ((Extern.ReflectliteType.method fun t => do Extern.Rtype.noPackHeld "Comparable" t; pure (.bool (← typeInfo t).comparable)) #[.agg #[hdl 180]]).run Tryd.prog w = .ok (.bool true) w := by kernel_rfl
theorem call_typeOfE (v : Value) (w : World) : (callFunc 86 #[.iface 180 v]).run Tryd.prog w = .ok (.value (.iface 166 (.agg #[hdl 180]))) w := by
  rw [@run_callFunc_extern Tryd.prog 86 _ Extern.ReflectliteType.typeOf Tryd.func86 (by kernel_rfl) (by kernel_rfl) (by kernel_rfl) (by kernel_rfl), typeOfE]; rfl
theorem call_compE (w : World) : (callFunc 122 #[.agg #[hdl 180]]).run Tryd.prog w = .ok (.value (.bool true)) w := by
  rw [@run_callFunc_extern Tryd.prog 122 _ (Extern.ReflectliteType.method fun t => do Extern.Rtype.noPackHeld "Comparable" t; pure (.bool (← typeInfo t).comparable)) Tryd.func122 (by kernel_rfl) (by kernel_rfl) (by kernel_rfl) (by kernel_rfl), compE]; rfl
theorem isMethodComparable (n : Nat) (v : Value) (w : World) : (Go.method (n + 1) 166 v "Comparable").run Tryd.prog w = .ok (122, v) w := by kernel_rfl
theorem isComp : (Tryd.prog.info? 180).map (·.comparable) = some true := by kernel_rfl
theorem isSize : (Tryd.prog.info? 199).map (·.size) = some 1 := by kernel_rfl
theorem noIsE (v : Value) (xT : TypeId) (w : World) : (Instr.typeAssert (.iface 180 v) xT 177 true).run Tryd.prog w = .ok (.tuple #[.nilIface, .bool false]) w := run_typeAssert_lacksB Tryd.underlying177 (by kernel_rfl) (by kernel_rfl) v xT w
theorem noUnwrapE (v : Value) (xT : TypeId) (w : World) : (Instr.typeAssert (.iface 180 v) xT 173 true).run Tryd.prog w = .ok (.tuple #[.nilIface, .bool false]) w := run_typeAssert_lacksB Tryd.underlying173 (by kernel_rfl) (by kernel_rfl) v xT w
theorem noUnwrapsE (v : Value) (xT : TypeId) (w : World) : (Instr.typeAssert (.iface 180 v) xT 175 true).run Tryd.prog w = .ok (.tuple #[.nilIface, .bool false]) w := run_typeAssert_lacksB Tryd.underlying175 (by kernel_rfl) (by kernel_rfl) v xT w
theorem noIsF (v : Value) (xT : TypeId) (w : World) : (Instr.typeAssert (.iface 68 v) xT 177 true).run Tryd.prog w = .ok (.tuple #[.nilIface, .bool false]) w := run_typeAssert_lacksB Tryd.underlying177 (by kernel_rfl) (by kernel_rfl) v xT w
theorem hasUnwrapF (v : Value) (xT : TypeId) (w : World) : (Instr.typeAssert (.iface 68 v) xT 173 true).run Tryd.prog w = .ok (.tuple #[.iface 68 v, .bool true]) w := run_typeAssert_hasB Tryd.underlying173 (by kernel_rfl) v xT w
theorem methodUnwrap (n : Nat) (v : Value) (w : World) : (Go.method (n + 1) 68 v "Unwrap").run Tryd.prog w = .ok (114, v) w := by kernel_rfl
theorem is_same (a : Addr) (w : World) :
    Calls Tryd.prog 72 #[.iface 180 (.pointer (some a)), .iface 180 (.pointer (some a))] w fun e w' => e = .returned (.bool true) ∧ w = w' := by
  obtain ⟨i, hi, hcmp⟩ := Option.map_eq_some_iff.1 isComp
  obtain ⟨j, hj, hjs⟩ := Option.map_eq_some_iff.1 isSize
  have h8 := call_typeOfE
  have h32 := call_compE
  have mR := isMethodComparable
  have heq := run_eql_iface_ptr_same (P := Tryd.prog) w a Tryd.underlying25 Tryd.underlying180 hi hcmp hj
  go_enter Tryd.func72, Tryd.ntmps72
  go_wp2
  refine wp_loop_rounds 1 ?_
  rw [rounds_succ]
  go_wp2
  go_ret
  exact ⟨rfl, rfl⟩
theorem is_other (a b : Addr) (ca cb : Array Value) (ta tb : TypeId) (w : World) (hne : a ≠ b) (ha : w.heap[a.block]? = some (.cells ca ta (0, 0))) (hb : w.heap[b.block]? = some (.cells cb tb (0, 0))) :
    Calls Tryd.prog 72 #[.iface 180 (.pointer (some a)), .iface 180 (.pointer (some b))] w fun e w' => e = .returned (.bool false) ∧ w = w' := by
  obtain ⟨i, hi, hcmp⟩ := Option.map_eq_some_iff.1 isComp
  obtain ⟨j, hj, hjs⟩ := Option.map_eq_some_iff.1 isSize
  have h8 := call_typeOfE
  have h32 := call_compE
  have mR := isMethodComparable
  have nE := noIsE
  have uE := noUnwrapE
  have vE := noUnwrapsE
  have heq := run_eql_iface_ptr_other (P := Tryd.prog) w Tryd.underlying25 Tryd.underlying180 hi hcmp hj (by rw [hjs]; decide) hne ha hb
  go_enter Tryd.func72, Tryd.ntmps72
  go_wp2
  refine wp_loop_rounds 1 ?_
  rw [rounds_succ]
  go_wp2
  go_ret
  exact ⟨rfl, rfl⟩
theorem is_fault_same (F : Nat) (b : Addr) (w : World) (h1 : w.cell? ⟨F, 1, none⟩ = some (.iface 180 (.pointer (some b)))) :
    Calls Tryd.prog 72 #[.iface 68 (.pointer (some ⟨F, 0, none⟩)), .iface 180 (.pointer (some b))] w fun e w' => e = .returned (.bool true) ∧ w = w' := by
  obtain ⟨i, hi, hcmp⟩ := Option.map_eq_some_iff.1 isComp
  obtain ⟨j, hj, hjs⟩ := Option.map_eq_some_iff.1 isSize
  have h8 := call_typeOfE
  have h32 := call_compE
  have mR := isMethodComparable
  have nE := noIsE
  have uE := noUnwrapE
  have vE := noUnwrapsE
  have nW := noIsF
  have uW := hasUnwrapF
  have mU := methodUnwrap
  have heq := run_eql_iface_ptr_same (P := Tryd.prog) w b Tryd.underlying25 Tryd.underlying180 hi hcmp hj
  have hty := run_eql_iface_types (P := Tryd.prog) 68 180 (.pointer (some ⟨F, 0, none⟩)) (.pointer (some b)) Tryd.underlying25 (by decide) w
  go_enter Tryd.func72, Tryd.ntmps72
  go_wp2
  refine wp_loop_rounds 2 ?_
  rw [rounds_succ]
  go_wp2
  rw [rounds_succ]
  go_wp2
  go_ret
  exact ⟨rfl, rfl⟩
theorem is_fault_other (F : Nat) (b a : Addr) (ca cb : Array Value) (ta tb : TypeId) (w : World) (h1 : w.cell? ⟨F, 1, none⟩ = some (.iface 180 (.pointer (some a)))) (hne : a ≠ b) (ha : w.heap[a.block]? = some (.cells ca ta (0, 0))) (hb : w.heap[b.block]? = some (.cells cb tb (0, 0))) :
    Calls Tryd.prog 72 #[.iface 68 (.pointer (some ⟨F, 0, none⟩)), .iface 180 (.pointer (some b))] w fun e w' => e = .returned (.bool false) ∧ w = w' := by
  obtain ⟨i, hi, hcmp⟩ := Option.map_eq_some_iff.1 isComp
  obtain ⟨j, hj, hjs⟩ := Option.map_eq_some_iff.1 isSize
  have h8 := call_typeOfE
  have h32 := call_compE
  have mR := isMethodComparable
  have nE := noIsE
  have uE := noUnwrapE
  have vE := noUnwrapsE
  have nW := noIsF
  have uW := hasUnwrapF
  have mU := methodUnwrap
  have heq := run_eql_iface_ptr_other (P := Tryd.prog) w Tryd.underlying25 Tryd.underlying180 hi hcmp hj (by rw [hjs]; decide) hne ha hb
  have hty := run_eql_iface_types (P := Tryd.prog) 68 180 (.pointer (some ⟨F, 0, none⟩)) (.pointer (some b)) Tryd.underlying25 (by decide) w
  go_enter Tryd.func72, Tryd.ntmps72
  go_wp2
  refine wp_loop_rounds 2 ?_
  rw [rounds_succ]
  go_wp2
  rw [rounds_succ]
  go_wp2
  go_ret
  exact ⟨rfl, rfl⟩
end Go.Proofs.YtdeiolagnheihaaDoor
namespace Go.Proofs.YtdeiolagnheihaaDoor
open Go.RowKit Go.Extern.Stop Go.Stop Go.Extern
set_option maxRecDepth 100000
theorem as_nil (t : Value) (w : World) :
    Calls Tryd.prog 71 #[.nilIface, t] w fun e w' => e = .returned (.bool false) ∧ w = w' := by
  go_enter Tryd.func71, Tryd.ntmps71
  go_wp2
  go_ret
  exact ⟨rfl, rfl⟩
theorem valueOfPP (t : Addr) (w : World) : (ReflectliteValue.unpack (.iface 127 (.pointer (some t)))).run Tryd.prog w
    = .ok (.agg #[hdl 127, .pointer (some ⟨w.heap.size, 0, none⟩), .int .u64 150]) (w.alloc (.cells #[.pointer (some t)] 127)) := by kernel_rfl
theorem typePP (a : Addr) (w : World) : (ReflectliteValue.methodAny (ReflectliteValue.valueError "reflectlite.Value.Type" 0) (fun t _ _ _ => ReflectliteType.toType t) #[.agg #[hdl 127, .pointer (some a), .int .u64 150]]).run Tryd.prog w
    = .ok (.iface 166 (.agg #[hdl 127])) w := by kernel_rfl
theorem methodKind (n : Nat) (h : Value) (w : World) : (Go.method (n + 1) 166 (.agg #[h]) "Kind").run Tryd.prog w = .ok (110, h) w := by kernel_rfl
theorem methodElem (n : Nat) (h : Value) (w : World) : (Go.method (n + 1) 166 (.agg #[h]) "Elem").run Tryd.prog w = .ok (123, .agg #[h]) w := by kernel_rfl
theorem methodImplements (n : Nat) (h : Value) (w : World) : (Go.method (n + 1) 166 (.agg #[h]) "Implements").run Tryd.prog w = .ok (124, .agg #[h]) w := by kernel_rfl
theorem methodAssignableTo (n : Nat) (h : Value) (w : World) : (Go.method (n + 1) 166 (.agg #[h]) "AssignableTo").run Tryd.prog w = .ok (121, .agg #[h]) w := by kernel_rfl
theorem kindPP (w : World) : ((ReflectliteType.abiMethod fun t => do pure (.int .u8 (← Rtype.kind t))) #[hdl 127]).run Tryd.prog w = .ok (.int .u8 22) w := by kernel_rfl
theorem kindP (w : World) : ((ReflectliteType.abiMethod fun t => do pure (.int .u8 (← Rtype.kind t))) #[hdl 68]).run Tryd.prog w = .ok (.int .u8 22) w := by kernel_rfl
theorem elemPP (w : World) : (ReflectliteType.method ReflectliteType.elem #[.agg #[hdl 127]]).run Tryd.prog w = .ok (.iface 166 (.agg #[hdl 68])) w := by kernel_rfl
theorem implP (w : World) : (ReflectliteType.relation "Implements" ReflectliteType.implements_ #[.agg #[hdl 68], .iface 166 (.agg #[hdl 25])]).run Tryd.prog w = .ok (.bool true) w := by kernel_rfl
theorem typeOfP (v : Value) (w : World) : (ReflectliteType.typeOf #[.iface 68 v]).run Tryd.prog w = .ok (.iface 166 (.agg #[hdl 68])) w := by kernel_rfl
theorem assignP (w : World) : (ReflectliteType.relation "AssignableTo" ReflectliteType.assignableTo #[.agg #[hdl 68], .iface 166 (.agg #[hdl 68])]).run Tryd.prog w = .ok (.bool true) w := by kernel_rfl
theorem assignE (w : World) : (ReflectliteType.relation "AssignableTo" ReflectliteType.assignableTo #[.agg #[hdl 180], .iface 166 (.agg #[hdl 68])]).run Tryd.prog w = .ok (.bool false) w := by kernel_rfl
theorem valueOfP (e : Addr) (w : World) : (ReflectliteValue.unpack (.iface 68 (.pointer (some e)))).run Tryd.prog w
    = .ok (.agg #[hdl 68, .pointer (some ⟨w.heap.size, 0, none⟩), .int .u64 150]) (w.alloc (.cells #[.pointer (some e)] 68)) := by kernel_rfl
theorem rlm (z : Sem Value) (f : TypeId → Addr → Nat → Nat → Sem Value) (v : Value) :
    ReflectliteValue.method z f #[v] = (do match ← ReflectliteValue.parts v with | none => z | some (t, a, fl) => f t a fl (fl % 32)) := rfl
theorem partsPP (a : Addr) (w : World) : (ReflectliteValue.parts (.agg #[hdl 127, .pointer (some a), .int .u64 150])).run Tryd.prog w = .ok (some (127, a, 150)) w := by kernel_rfl
theorem isNilPP (a p : Addr) (W : World) (ha : W.cell? a = some (.pointer (some p))) :
    (ReflectliteValue.method (ReflectliteValue.valueError "reflectlite.Value.IsNil" 0) ReflectliteValue.isNil #[.agg #[hdl 127, .pointer (some a), .int .u64 150]]).run Tryd.prog W = .ok (.bool false) W := by
  rw [rlm]
  simp only [Sem.run_bind, partsPP, Result.andThen]
  simp [ReflectliteValue.isNil, loadVar, isAgg, underlying, Tryd.underlying127, ha, Result.andThen]
theorem elemOfPP (w : World) : (Rtype.elem? 127).run Tryd.prog w = .ok (some 68) w := by kernel_rfl
theorem mkP (p : Addr) (w : World) : (ReflectliteValue.mk 68 p ReflectliteValue.flagAddr).run Tryd.prog w = .ok (.agg #[hdl 68, .pointer (some p), .int .u64 406]) w := by kernel_rfl
theorem elemVPP (a p : Addr) (W : World) (ha : W.cell? a = some (.pointer (some p))) :
    (ReflectliteValue.method (ReflectliteValue.valueError "reflectlite.Value.Elem" 0) ReflectliteValue.elem #[.agg #[hdl 127, .pointer (some a), .int .u64 150]]).run Tryd.prog W
      = .ok (.agg #[hdl 68, .pointer (some p), .int .u64 406]) W := by
  rw [rlm]
  simp only [Sem.run_bind, partsPP, Result.andThen]
  simp [ReflectliteValue.elem, loadVar, isAgg, underlying, Tryd.underlying127, ha, Result.andThen, elemOfPP, mkP]
theorem rls (v x : Value) : ReflectliteValue.set #[v, x] = (do
    let (some (dst, a, fl), some (src, b, _)) := (← ReflectliteValue.parts v, ← ReflectliteValue.parts x)
      | unsupported (.noEntry "extern/(internal/reflectlite.Value).Set.zeroValue")
    if fl / ReflectliteValue.flagAddr % 2 == 0 then unsupported (.noEntry "extern/(internal/reflectlite.Value).Set.unaddressable")
    let val ← loadVar src b
    if ← Rtype.directlyAssignable dst src then storeVar dst a val
    else if ← Rtype.implements dst src then
      if (← Rtype.kind src) == 20 then
        match val with
        | .nilIface => unsupported (.noEntry "extern/reflectlite: a nil value of one interface type handed on as a value of another")
        | _ => storeVar dst a val
      else storeVar dst a (.iface src val)
    else panicString ("reflectlite.Set: value of type " ++ (← Rtype.spelt src) ++ " is not assignable to type " ++ (← Rtype.spelt dst))
    pure (.tuple #[])) := rfl
theorem partsPa (a : Addr) (w : World) : (ReflectliteValue.parts (.agg #[hdl 68, .pointer (some a), .int .u64 406])).run Tryd.prog w = .ok (some (68, a, 406)) w := by kernel_rfl
theorem partsP (a : Addr) (w : World) : (ReflectliteValue.parts (.agg #[hdl 68, .pointer (some a), .int .u64 150])).run Tryd.prog w = .ok (some (68, a, 150)) w := by kernel_rfl
theorem directP (w : World) : (Rtype.directlyAssignable 68 68).run Tryd.prog w = .ok true w := by kernel_rfl
theorem setP (ta b e : Addr) (old : Value) (W : World) (hb : W.cell? b = some (.pointer (some e))) (ht : W.cell? ta = some old) (hf : W.frozen? ta = false) :
    (ReflectliteValue.set #[.agg #[hdl 68, .pointer (some ta), .int .u64 406], .agg #[hdl 68, .pointer (some b), .int .u64 150]]).run Tryd.prog W
      = .ok (.tuple #[]) (W.setCell ta (.pointer (some e))) := by
  rw [rls]
  simp only [Sem.run_bind, partsPa, partsP, Result.andThen]
  simp [ReflectliteValue.flagAddr, loadVar, isAgg, underlying, Tryd.underlying68, hb, Result.andThen, directP, storeVar, Value.cells, storeCells, Addr.add]
  rw [run_store Tryd.prog W ta _ _ (by rfl)]
  simp [ht, hf]
theorem noAsE (v : Value) (xT : TypeId) (w : World) : (Instr.typeAssert (.iface 180 v) xT 170 true).run Tryd.prog w = .ok (.tuple #[.nilIface, .bool false]) w := run_typeAssert_lacksB Tryd.underlying170 (by kernel_rfl) (by kernel_rfl) v xT w
theorem call_valueOf (x : Value) (v : Value) (w w' : World) (h : (ReflectliteValue.unpack x).run Tryd.prog w = .ok v w') : (callFunc 82 #[x]).run Tryd.prog w = .ok (.value v) w' := by
  rw [@run_callFunc_extern Tryd.prog 82 _ (fun args => ReflectliteValue.unpack (args.getD 0 (.tuple #[]))) Tryd.func82 (by kernel_rfl) (by kernel_rfl) (by kernel_rfl) (by kernel_rfl)]
  show ((ReflectliteValue.unpack x).run Tryd.prog w).andThen _ = _
  rw [h]; rfl
theorem call_type (x : Value) (v : Value) (w w' : World) (h : (ReflectliteValue.methodAny (ReflectliteValue.valueError "reflectlite.Value.Type" 0) (fun t _ _ _ => ReflectliteType.toType t) #[x]).run Tryd.prog w = .ok v w') : (callFunc 83 #[x]).run Tryd.prog w = .ok (.value v) w' := by
  rw [@run_callFunc_extern Tryd.prog 83 _ (ReflectliteValue.methodAny (ReflectliteValue.valueError "reflectlite.Value.Type" 0) (fun t _ _ _ => ReflectliteType.toType t)) Tryd.func83 (by kernel_rfl) (by kernel_rfl) (by kernel_rfl) (by kernel_rfl), h]; rfl
theorem call_isNil (x : Value) (v : Value) (w w' : World) (h : (ReflectliteValue.method (ReflectliteValue.valueError "reflectlite.Value.IsNil" 0) ReflectliteValue.isNil #[x]).run Tryd.prog w = .ok v w') : (callFunc 84 #[x]).run Tryd.prog w = .ok (.value v) w' := by
  rw [@run_callFunc_extern Tryd.prog 84 _ (ReflectliteValue.method (ReflectliteValue.valueError "reflectlite.Value.IsNil" 0) ReflectliteValue.isNil) Tryd.func84 (by kernel_rfl) (by kernel_rfl) (by kernel_rfl) (by kernel_rfl), h]; rfl
theorem call_velem (x : Value) (v : Value) (w w' : World) (h : (ReflectliteValue.method (ReflectliteValue.valueError "reflectlite.Value.Elem" 0) ReflectliteValue.elem #[x]).run Tryd.prog w = .ok v w') : (callFunc 92 #[x]).run Tryd.prog w = .ok (.value v) w' := by
  rw [@run_callFunc_extern Tryd.prog 92 _ (ReflectliteValue.method (ReflectliteValue.valueError "reflectlite.Value.Elem" 0) ReflectliteValue.elem) Tryd.func92 (by kernel_rfl) (by kernel_rfl) (by kernel_rfl) (by kernel_rfl), h]; rfl
theorem call_set (x y : Value) (v : Value) (w w' : World) (h : (ReflectliteValue.set #[x, y]).run Tryd.prog w = .ok v w') : (callFunc 93 #[x, y]).run Tryd.prog w = .ok (.value v) w' := by
  rw [@run_callFunc_extern Tryd.prog 93 _ ReflectliteValue.set Tryd.func93 (by kernel_rfl) (by kernel_rfl) (by kernel_rfl) (by kernel_rfl), h]; rfl
theorem call_kind (x : Value) (v : Value) (w w' : World) (h : ((ReflectliteType.abiMethod fun t => do pure (.int .u8 (← Rtype.kind t))) #[x]).run Tryd.prog w = .ok v w') : (callFunc 110 #[x]).run Tryd.prog w = .ok (.value v) w' := by
  rw [@run_callFunc_extern Tryd.prog 110 _ (ReflectliteType.abiMethod fun t => do pure (.int .u8 (← Rtype.kind t))) Tryd.func110 (by kernel_rfl) (by kernel_rfl) (by kernel_rfl) (by kernel_rfl), h]; rfl
theorem call_elem (x : Value) (v : Value) (w w' : World) (h : (ReflectliteType.method ReflectliteType.elem #[x]).run Tryd.prog w = .ok v w') : (callFunc 123 #[x]).run Tryd.prog w = .ok (.value v) w' := by
  rw [@run_callFunc_extern Tryd.prog 123 _ (ReflectliteType.method ReflectliteType.elem) Tryd.func123 (by kernel_rfl) (by kernel_rfl) (by kernel_rfl) (by kernel_rfl), h]; rfl
theorem call_impl (x y : Value) (v : Value) (w w' : World) (h : (ReflectliteType.relation "Implements" ReflectliteType.implements_ #[x, y]).run Tryd.prog w = .ok v w') : (callFunc 124 #[x, y]).run Tryd.prog w = .ok (.value v) w' := by
  rw [@run_callFunc_extern Tryd.prog 124 _ (ReflectliteType.relation "Implements" ReflectliteType.implements_) Tryd.func124 (by kernel_rfl) (by kernel_rfl) (by kernel_rfl) (by kernel_rfl), h]; rfl
theorem call_assign (x y : Value) (v : Value) (w w' : World) (h : (ReflectliteType.relation "AssignableTo" ReflectliteType.assignableTo #[x, y]).run Tryd.prog w = .ok v w') : (callFunc 121 #[x, y]).run Tryd.prog w = .ok (.value v) w' := by
  rw [@run_callFunc_extern Tryd.prog 121 _ (ReflectliteType.relation "AssignableTo" ReflectliteType.assignableTo) Tryd.func121 (by kernel_rfl) (by kernel_rfl) (by kernel_rfl) (by kernel_rfl), h]; rfl
theorem call_typeOf (x : Value) (v : Value) (w w' : World) (h : (ReflectliteType.typeOf #[x]).run Tryd.prog w = .ok v w') : (callFunc 86 #[x]).run Tryd.prog w = .ok (.value v) w' := by
  rw [@run_callFunc_extern Tryd.prog 86 _ ReflectliteType.typeOf Tryd.func86 (by kernel_rfl) (by kernel_rfl) (by kernel_rfl) (by kernel_rfl), h]; rfl
/-- the variable of package errors that holds the type error -/
def ErrType (w : World) : Prop := w.cell? ⟨9, 0, none⟩ = some (.iface 166 (.agg #[hdl 25]))
set_option maxHeartbeats 4000000 in
theorem as_hit (e t : Addr) (old : Value) (w : World) (hg : ErrType w) (ht0 : w.cell? t = some old) (hf0 : w.frozen? t = false) :
    Calls Tryd.prog 71 #[.iface 68 (.pointer (some e)), .iface 127 (.pointer (some t))] w fun ev w' => ev = .returned (.bool true) ∧ Keeps (fun k => k = t.block) w w' ∧ w'.cell? t = some (.pointer (some e)) ∧ w'.frozen? t = false := by
  unfold ErrType at hg
  have hlt : 9 < w.heap.size := World.block_lt_of_cell? w _ hg
  have htl : t.block < w.heap.size := World.block_lt_of_cell? w _ ht0
  have f6 := fun (t : Addr) w => call_valueOf _ _ _ _ (valueOfPP t w)
  have f7 := fun (a : Addr) w => call_type _ _ _ _ (typePP a w)
  have k27 := fun w => call_kind _ _ _ _ (kindPP w)
  have k25 := fun w => call_kind _ _ _ _ (kindP w)
  have e27 := fun w => call_elem _ _ _ _ (elemPP w)
  have i25 := fun w => call_impl _ _ _ _ _ (implP w)
  have tO := fun v w => call_typeOf _ _ _ _ (typeOfP v w)
  have a25 := fun w => call_assign _ _ _ _ _ (assignP w)
  have v25 := fun e w => call_valueOf _ _ _ _ (valueOfP e w)
  have mK := methodKind
  have mE := methodElem
  have mI := methodImplements
  have mA := methodAssignableTo
  have n8 := call_isNil _ _ _ _ (isNilPP ⟨w.heap.size, 0, none⟩ t ((w.alloc (.cells #[.pointer (some t)] 127)).alloc (.cells #[hdl 127, .pointer (some ⟨w.heap.size, 0, none⟩), .int .u64 150] 151)) (by simp))
  have hg2 : ((w.alloc (.cells #[.pointer (some t)] 127)).alloc (.cells #[hdl 127, .pointer (some ⟨w.heap.size, 0, none⟩), .int .u64 150] 151)).cell? ⟨9, 0, none⟩ = some (.iface 166 (.agg #[hdl 25])) := by
    rw [World.cell?_alloc_lt _ _ ⟨9, 0, none⟩ (by simp; omega), World.cell?_alloc_lt _ _ ⟨9, 0, none⟩ hlt]; exact hg
  have el := call_velem _ _ _ _ (elemVPP ⟨w.heap.size, 0, none⟩ t (((w.alloc (.cells #[.pointer (some t)] 127)).alloc (.cells #[hdl 127, .pointer (some ⟨w.heap.size, 0, none⟩), .int .u64 150] 151)).alloc (.cells #[hdl 127, .pointer (some ⟨w.heap.size, 0, none⟩), .int .u64 150] 151)) (by rw [World.cell?_alloc_lt _ _ ⟨w.heap.size, 0, none⟩ (by simp; omega)]; simp))
  have c1 : ((((w.alloc (.cells #[.pointer (some t)] 127)).alloc (.cells #[hdl 127, .pointer (some ⟨w.heap.size, 0, none⟩), .int .u64 150] 151)).alloc (.cells #[hdl 127, .pointer (some ⟨w.heap.size, 0, none⟩), .int .u64 150] 151)).alloc (.cells #[.pointer (some e)] 68)).cell? t = some old := by rw [World.cell?_alloc_lt _ _ t (by simp; omega), World.cell?_alloc_lt _ _ t (by simp; omega), World.cell?_alloc_lt _ _ t (by simp; omega), World.cell?_alloc_lt _ _ t htl]; exact ht0
  have c2 : ((((w.alloc (.cells #[.pointer (some t)] 127)).alloc (.cells #[hdl 127, .pointer (some ⟨w.heap.size, 0, none⟩), .int .u64 150] 151)).alloc (.cells #[hdl 127, .pointer (some ⟨w.heap.size, 0, none⟩), .int .u64 150] 151)).alloc (.cells #[.pointer (some e)] 68)).frozen? t = false := by rw [World.frozen?_alloc_old _ _ t (by simp; omega), World.frozen?_alloc_old _ _ t (by simp; omega), World.frozen?_alloc_old _ _ t (by simp; omega), World.frozen?_alloc_old _ _ t (Nat.ne_of_lt htl)]; exact hf0
  have st := call_set _ _ _ _ _ (setP t ⟨w.heap.size + 1 + 1 + 1, 0, none⟩ e old ((((w.alloc (.cells #[.pointer (some t)] 127)).alloc (.cells #[hdl 127, .pointer (some ⟨w.heap.size, 0, none⟩), .int .u64 150] 151)).alloc (.cells #[hdl 127, .pointer (some ⟨w.heap.size, 0, none⟩), .int .u64 150] 151)).alloc (.cells #[.pointer (some e)] 68))
    (by rw [World.cell?_alloc_at _ _ _ _ (by simp)]; rfl) c1 c2)
  have fin : Keeps (fun k => k = t.block) w (((((w.alloc (.cells #[.pointer (some t)] 127)).alloc (.cells #[hdl 127, .pointer (some ⟨w.heap.size, 0, none⟩), .int .u64 150] 151)).alloc (.cells #[hdl 127, .pointer (some ⟨w.heap.size, 0, none⟩), .int .u64 150] 151)).alloc (.cells #[.pointer (some e)] 68)).setCell t (.pointer (some e))) :=
    (((((Keeps.refl (fun k => k = t.block) w).alloc _).alloc _).alloc _).alloc _).setCell (.inl rfl) _
  have C1 : (((((w.alloc (.cells #[.pointer (some t)] 127)).alloc (.cells #[hdl 127, .pointer (some ⟨w.heap.size, 0, none⟩), .int .u64 150] 151)).alloc (.cells #[hdl 127, .pointer (some ⟨w.heap.size, 0, none⟩), .int .u64 150] 151)).alloc (.cells #[.pointer (some e)] 68)).setCell t (.pointer (some e))).cell? t = some (.pointer (some e)) := World.cell?_setCell_same _ _ _ c1
  have C2 : (((((w.alloc (.cells #[.pointer (some t)] 127)).alloc (.cells #[hdl 127, .pointer (some ⟨w.heap.size, 0, none⟩), .int .u64 150] 151)).alloc (.cells #[hdl 127, .pointer (some ⟨w.heap.size, 0, none⟩), .int .u64 150] 151)).alloc (.cells #[.pointer (some e)] 68)).setCell t (.pointer (some e))).frozen? t = false := by rw [World.frozen?_setCell]; exact c2
  have HF := Lib.hid fin
  have H1 := Lib.hid C1
  have H2 := Lib.hid C2
  clear fin C1 C2 c1 c2
  go_enter Tryd.func71, Tryd.ntmps71
  go_wp2
  refine wp_loop_rounds 1 ?_
  rw [rounds_succ]
  go_wp2
  go_ret
  exact ⟨rfl, HF.out, H1.out, H2.out⟩
set_option maxHeartbeats 4000000 in
theorem as_miss (e t : Addr) (w : World) (hg : ErrType w) :
    Calls Tryd.prog 71 #[.iface 180 (.pointer (some e)), .iface 127 (.pointer (some t))] w fun ev w' => ev = .returned (.bool false) ∧ Ext w w' := by
  unfold ErrType at hg
  have hlt : 9 < w.heap.size := World.block_lt_of_cell? w _ hg
  have f6 := fun (t : Addr) w => call_valueOf _ _ _ _ (valueOfPP t w)
  have f7 := fun (a : Addr) w => call_type _ _ _ _ (typePP a w)
  have k27 := fun w => call_kind _ _ _ _ (kindPP w)
  have k25 := fun w => call_kind _ _ _ _ (kindP w)
  have e27 := fun w => call_elem _ _ _ _ (elemPP w)
  have i25 := fun w => call_impl _ _ _ _ _ (implP w)
  have tO := call_typeOfE
  have a25 := fun w => call_assign _ _ _ _ _ (assignE w)
  have mK := methodKind
  have mE := methodElem
  have mI := methodImplements
  have mA := methodAssignableTo
  have nA := noAsE
  have uE := noUnwrapE
  have vE := noUnwrapsE
  have n8 := call_isNil _ _ _ _ (isNilPP ⟨w.heap.size, 0, none⟩ t ((w.alloc (.cells #[.pointer (some t)] 127)).alloc (.cells #[hdl 127, .pointer (some ⟨w.heap.size, 0, none⟩), .int .u64 150] 151)) (by simp))
  have hg2 : ((w.alloc (.cells #[.pointer (some t)] 127)).alloc (.cells #[hdl 127, .pointer (some ⟨w.heap.size, 0, none⟩), .int .u64 150] 151)).cell? ⟨9, 0, none⟩ = some (.iface 166 (.agg #[hdl 25])) := by
    rw [World.cell?_alloc_lt _ _ ⟨9, 0, none⟩ (by simp; omega), World.cell?_alloc_lt _ _ ⟨9, 0, none⟩ hlt]; exact hg
  have fin : Ext w (((w.alloc (.cells #[.pointer (some t)] 127)).alloc (.cells #[hdl 127, .pointer (some ⟨w.heap.size, 0, none⟩), .int .u64 150] 151)).alloc (.cells #[hdl 127, .pointer (some ⟨w.heap.size, 0, none⟩), .int .u64 150] 151)) :=
    (((Ext.refl w).alloc _).alloc _).alloc _
  have HF := Lib.hid fin
  clear fin
  go_enter Tryd.func71, Tryd.ntmps71
  go_wp2
  refine wp_loop_rounds 1 ?_
  rw [rounds_succ]
  go_wp2
  go_ret
  exact ⟨rfl, HF.out⟩
end Go.Proofs.YtdeiolagnheihaaDoor
namespace Go.Proofs.YtdeiolagnheihaaDoor
open Go.ChangeShapes Go.WideShapes Go.RowKit Go.Deep
/-- a slice of records of one-cell fields: every field's cell and how it reads -/
theorem open_recs {H : Type} {enc : TypeId × Value → H} {P : Program} {w : World} {base : Nat} {spare : Nat → Bool} {held : Bool} {t e : TypeId} {fs : Array Field} {fuel : Nat} {cs : List Value} {x : DataW H × List MemPlace}
    (ht : P.underlying t = some (.slice e)) (he : P.underlying e = some (.struct fs)) (hone : oneCellFields P fs = true) (hC : P.cellsOf e = fs.size) (h : DataW.trod enc P w base spare held fuel t cs = some x) :
    cs = [.slice none 0 0] ∨ ∃ (a : Addr) (len cap : Nat), cs = [.slice (some a) len cap] ∧ len ≤ cap ∧ cap ≤ maxLen ∧
      ∀ i, i < len → ∀ (j : Nat) (f : Field), fs[j]? = some f → ∃ (v : Value) (y : DataW H × List MemPlace) (n : Nat), w.cell? ((a.add (i * fs.size)).add j) = some v ∧ DataW.trod enc P w base spare held n f.type [v] = some y := by
  rcases open_slice ht h with ⟨h0, _⟩ | ⟨a, len, cap, m, n, D, Pl, hcs, _, hl, hm, hmm, _, hi⟩
  · exact .inl h0
  · refine .inr ⟨a, len, cap, hcs, hl, hm, fun i hlt j f hj => ?_⟩
    have him : i < m := by rw [hmm]; split <;> omega
    obtain ⟨cs', hc, hr⟩ := hi i him
    obtain ⟨xs, k, _, _, _, hxl, hx⟩ := DataW.trod_struct he hr
    obtain ⟨_, hcl, hat⟩ := World.cells?_some hc
    rw [hC] at hcl hat
    have hjs : j < fs.size := (Array.getElem?_eq_some_iff.1 hj).1
    obtain ⟨o1, o2⟩ := hone_of hone j f hj
    have hxj := hx j f hj
    rw [o1, o2, List.drop_eq_getElem_cons (by omega)] at hxj
    have e1 : xs[j]? = some (xs[j]'(by omega)) := List.getElem?_eq_getElem (by omega)
    have e2 : w.cell? ((a.add (i * fs.size)).add j) = some (cs'[j]'(by omega)) := by
      rw [hat j hjs]; exact List.getElem?_eq_getElem (by omega)
    exact ⟨_, _, k, e2, hxj.trans e1⟩
theorem cell_add {w : World} {q : Addr} {v : Value} {k : Nat} (hk : k ≠ 0) (h : w.cell? (q.add k) = some v) : w.cell? ⟨q.block, q.off + k, none⟩ = some v := by
  unfold Addr.add at h; rw [if_neg hk] at h; exact h
/-- a sentinel of the list: its variable holds an error's pointer -/
theorem sent_star : Tryd.prog.typeName? 3 180 = some "*errors.errorString" := by kernel_rfl
theorem sent_row (u : TypeId) (h : Tryd.prog.typeName? 3 u = some "*errors.errorString") : u = 180 :=
  typeName_ptr_named (nm := "errors.errorString") (by kernel_rfl) (by kernel_rfl) (by decide) u h
theorem sentinel {l : List (String × DataW Unit)} {W : World} {n : String} {g : Nat} {text : List UInt8} {ti : TypeId} {ms : Array (String × TypeId)} (h : laidMetH Tryd.prog l W)
    (hl : l.filter (fun x => x.1 == n) = [(n, .iface "*errors.errorString" (.ptr (.agg [.lit (.string text)])))]) (hg : Tryd.prog.globalNamed n = some g)
    (ht : (Tryd.prog.globals[g]?).map (·.type) = some ti) (hi : Tryd.prog.underlying ti = some (.interface ms)) :
    ∃ (E : Addr) (s : ByteArray), W.cell? ⟨g, 0, none⟩ = some (.iface 180 (.pointer (some E))) ∧ W.cell? E = some (.string s) ∧ s.data.toList = text ∧ s.size ≤ maxLen := by
  have h1 := laidMetH.filter (fun x => x.1 == n) h
  rw [hl] at h1
  have h2 : laidMet Tryd.prog [(n, .iface "*errors.errorString" (.ptr (.agg [.lit (.string text)])))] W := h1
  obtain ⟨E, s, hv, hc, hs, hz⟩ := laid_sentinel h2 hg ht hi sent_row Tryd.underlying180 Tryd.underlying199 rfl rfl Tryd.underlying9 (by kernel_rfl) (by kernel_rfl)
  exact ⟨E, s, by simpa using World.var?_cell hg hv 0, hc, hs, hz⟩
end Go.Proofs.YtdeiolagnheihaaDoor
namespace Go.Proofs.YtdeiolagnheihaaDoor
open Go.RowKit
set_option maxRecDepth 100000
/-- the variables of the errors, in the order of their numbers -/
def gk : Nat → Nat
  | 0 => 2
  | 1 => 0
  | 2 => 1
  | 3 => 3
  | 4 => 4
  | 5 => 5
  | 6 => 6
  | 7 => 7
  | _ => 8
def sentV (a : Addr) : Value := .iface 180 (.pointer (some a))
/-- the package's errors as they lie in memory -/
structure Errs (w : World) (E : Nat → Addr) : Prop where
  et : ErrType w
  var : ∀ k, k < 9 → w.cell? ⟨gk k, 0, none⟩ = some (sentV (E k))
  row : ∀ k, k < 9 → ∃ c t, w.heap[(E k).block]? = some (.cells c t (0, 0))
  ne : ∀ j k, j < 9 → k < 9 → j ≠ k → E j ≠ E k
theorem Errs.ext {w w' : World} {E : Nat → Addr} (h : Errs w E) (hE : Ext w w') : Errs w' E := by
  refine ⟨?_, fun k hk => ?_, fun k hk => ?_, h.ne⟩
  · exact (hE.cell (p := ⟨9, 0, none⟩) (World.block_lt_of_cell? w _ h.et)).trans h.et
  · exact (hE.cell (p := ⟨gk k, 0, none⟩) (World.block_lt_of_cell? w _ (h.var k hk))).trans (h.var k hk)
  · obtain ⟨c, t, hc⟩ := h.row k hk
    exact ⟨c, t, (hE.block (E k).block (lt_of_block hc)).trans hc⟩
/-- an error value: its number, and its place -/
inductive ErrV (w : World) (E : Nat → Addr) : Value → Int → Int → Prop
  | nil : ErrV w E .nilIface 0 (-1)
  | sent (k : Nat) (hk : k < 9) : ErrV w E (sentV (E k)) ((k : Int) + 1) (-1)
  | fault (k F : Nat) (a : Int) (hk : k < 9) (h : w.heap[F]? = some (.cells #[.int .i64 a, sentV (E k)] 70 (0, 0))) (h1 : -9223372036854775808 ≤ a) (h2 : a ≤ 9223372036854775807) : ErrV w E (.iface 68 (.pointer (some ⟨F, 0, none⟩))) ((k : Int) + 1) a
theorem ErrV.ext {w w' : World} {E : Nat → Addr} {v : Value} {c a : Int} (h : ErrV w E v c a) (hE : Ext w w') : ErrV w' E v c a := by
  cases h with
  | nil => exact .nil
  | sent k hk => exact .sent k hk
  | fault k F a hk h h1 h2 => exact .fault k F a hk ((hE.block F (lt_of_block h)).trans h) h1 h2
theorem code_nil (w : World) : Calls Tryd.prog 49 #[.nilIface] w fun e w' => e = .returned (.tuple #[.int .i64 0, .int .i64 (-1)]) ∧ Ext w w' := by
  go_enter Tryd.func49, Tryd.ntmps49
  go_wp2
  go_ret2
  exact ⟨rfl, Ext.refl _⟩
set_option maxHeartbeats 4000000 in
theorem code_sent (w : World) (E : Nat → Addr) (hE : Errs w E) (k : Nat) (hk : k < 9) : Calls Tryd.prog 49 #[sentV (E k)] w fun e w' => e = .returned (.tuple #[.int .i64 ((k : Int) + 1), .int .i64 (-1)]) ∧ Ext w w' := by
  have HE := Lib.hid hE
  clear hE
  unfold sentV
  go_enter Tryd.func49, Tryd.ntmps49
  go_wp2_with fail
  refine (as_miss _ _ _ (HE.out.ext ((Ext.refl w).alloc _)).et).mono ?_
  rintro e w2 ⟨rfl, h2⟩
  have HX : Hid (Ext w w2) := Lib.hid (((Ext.refl w).alloc _).trans h2)
  clear h2
  have HE2 := Lib.hid (HE.out.ext HX.out)
  have c0 := HE2.out.var 0 (by decide)
  have c1 := HE2.out.var 1 (by decide)
  have c2 := HE2.out.var 2 (by decide)
  have c3 := HE2.out.var 3 (by decide)
  have c4 := HE2.out.var 4 (by decide)
  have c5 := HE2.out.var 5 (by decide)
  have c6 := HE2.out.var 6 (by decide)
  have c7 := HE2.out.var 7 (by decide)
  have c8 := HE2.out.var 8 (by decide)
  simp only [gk, sentV] at c0 c1 c2 c3 c4 c5 c6 c7 c8
  go_wp2_with fail
  have cells : ∀ j, j < 9 → (w2.alloc (.cells #[.iface 180 (.pointer (some (E 0))), .iface 180 (.pointer (some (E 1))), .iface 180 (.pointer (some (E 2))), .iface 180 (.pointer (some (E 3))), .iface 180 (.pointer (some (E 4))), .iface 180 (.pointer (some (E 5))), .iface 180 (.pointer (some (E 6))), .iface 180 (.pointer (some (E 7))), .iface 180 (.pointer (some (E 8)))] 25)).cell? ⟨w2.heap.size, j, none⟩ = some (.iface 180 (.pointer (some (E j)))) := by
    intro j hj
    rw [World.cell?_alloc_at _ _ _ _ rfl]
    match j, hj with
    | 0, _ => rfl
    | 1, _ => rfl
    | 2, _ => rfl
    | 3, _ => rfl
    | 4, _ => rfl
    | 5, _ => rfl
    | 6, _ => rfl
    | 7, _ => rfl
    | 8, _ => rfl
  have HC := Lib.hid cells
  have HX3 : Hid (Ext w (w2.alloc (.cells #[.iface 180 (.pointer (some (E 0))), .iface 180 (.pointer (some (E 1))), .iface 180 (.pointer (some (E 2))), .iface 180 (.pointer (some (E 3))), .iface 180 (.pointer (some (E 4))), .iface 180 (.pointer (some (E 5))), .iface 180 (.pointer (some (E 6))), .iface 180 (.pointer (some (E 7))), .iface 180 (.pointer (some (E 8)))] 25))) := Lib.hid (HX.out.alloc _)
  have HE3 := Lib.hid (HE.out.ext HX3.out)
  clear cells c0 c1 c2 c3 c4 c5 c6 c7 c8
  generalize hw3 : (w2.alloc (.cells #[.iface 180 (.pointer (some (E 0))), .iface 180 (.pointer (some (E 1))), .iface 180 (.pointer (some (E 2))), .iface 180 (.pointer (some (E 3))), .iface 180 (.pointer (some (E 4))), .iface 180 (.pointer (some (E 5))), .iface 180 (.pointer (some (E 6))), .iface 180 (.pointer (some (E 7))), .iface 180 (.pointer (some (E 8)))] 25)) = w3 at *
  clear hw3
  go_loop [3, 27] (fun p c => ∃ i : Nat, i ≤ k ∧ p = .int .i64 (-1) ∧ c = .int .i64 i) (fun _ c => k - (intOf c).toNat)
  case atStart => exact ⟨0, by omega, rfl, rfl⟩
  case round =>
    obtain ⟨i, hi, rfl, rfl⟩ := hrel
    have hc := HC.out i (by omega)
    obtain ⟨ca, ta, ha⟩ := HE3.out.row k hk
    obtain ⟨cb, tb, hb⟩ := HE3.out.row i (by omega)
    have HA := Lib.hid ha
    have HB := Lib.hid hb
    clear ha hb
    by_cases hik : i = k
    · subst hik
      go_wp2_with fail
      refine (is_same _ _).mono ?_
      rintro e w4 ⟨rfl, rfl⟩
      go_wp2_with fail
      go_ret2
      exact ⟨rfl, HX3.out⟩
    · have hne := HE3.out.ne k i hk (by omega) (fun e => hik e.symm)
      have HN := Lib.hid hne
      clear hne
      go_wp2_with fail
      refine (is_other _ _ ca cb ta tb _ HN.out HA.out HB.out).mono ?_
      rintro e w4 ⟨rfl, rfl⟩
      go_wp2_with fail
      go_round
      case rel => exact ⟨i + 1, by omega, rfl, by go_num⟩
      case measure => simp [intOf]; omega
set_option maxHeartbeats 4000000 in
theorem code_fault (w : World) (E : Nat → Addr) (hE : Errs w E) (k F : Nat) (a : Int) (hk : k < 9) (h : w.heap[F]? = some (.cells #[.int .i64 a, sentV (E k)] 70 (0, 0))) : Calls Tryd.prog 49 #[.iface 68 (.pointer (some ⟨F, 0, none⟩))] w fun e w' => e = .returned (.tuple #[.int .i64 ((k : Int) + 1), .int .i64 a]) ∧ Ext w w' := by
  have HF := Lib.hid h
  clear h
  have HE := Lib.hid hE
  clear hE
  go_enter Tryd.func49, Tryd.ntmps49
  go_wp2_with fail
  refine (as_hit ⟨F, 0, none⟩ ⟨w.heap.size, 0, none⟩ (.pointer none) _ (HE.out.ext ((Ext.refl w).alloc _)).et (by simp) (by simp)).mono ?_
  rintro e w2 ⟨rfl, h2, ct, zt⟩
  have HX : Hid (Ext w w2) := Lib.hid (by
    have q := ((Ext.refl w).alloc (.cells #[.pointer none] 68)).keeps (S := fun k => k = w.heap.size) |>.trans h2 (fun _ _ q => q)
    exact q.below (Nat.le_refl _) (fun k hk e => by omega))
  clear h2
  have HF2 : Hid (w2.heap[F]? = some (.cells #[.int .i64 a, sentV (E k)] 70 (0, 0))) := Lib.hid ((HX.out.block F (lt_of_block HF.out)).trans HF.out)
  have hF0 : w2.cell? ⟨F, 0, none⟩ = some (.int .i64 a) := by simp [World.cell?, HF2.out]
  have HE2 := Lib.hid (HE.out.ext HX.out)
  have c0 := HE2.out.var 0 (by decide)
  have c1 := HE2.out.var 1 (by decide)
  have c2 := HE2.out.var 2 (by decide)
  have c3 := HE2.out.var 3 (by decide)
  have c4 := HE2.out.var 4 (by decide)
  have c5 := HE2.out.var 5 (by decide)
  have c6 := HE2.out.var 6 (by decide)
  have c7 := HE2.out.var 7 (by decide)
  have c8 := HE2.out.var 8 (by decide)
  simp only [gk, sentV] at c0 c1 c2 c3 c4 c5 c6 c7 c8
  go_wp2_with fail
  have cells : ∀ j, j < 9 → (w2.alloc (.cells #[.iface 180 (.pointer (some (E 0))), .iface 180 (.pointer (some (E 1))), .iface 180 (.pointer (some (E 2))), .iface 180 (.pointer (some (E 3))), .iface 180 (.pointer (some (E 4))), .iface 180 (.pointer (some (E 5))), .iface 180 (.pointer (some (E 6))), .iface 180 (.pointer (some (E 7))), .iface 180 (.pointer (some (E 8)))] 25)).cell? ⟨w2.heap.size, j, none⟩ = some (.iface 180 (.pointer (some (E j)))) := by
    intro j hj
    rw [World.cell?_alloc_at _ _ _ _ rfl]
    match j, hj with
    | 0, _ => rfl
    | 1, _ => rfl
    | 2, _ => rfl
    | 3, _ => rfl
    | 4, _ => rfl
    | 5, _ => rfl
    | 6, _ => rfl
    | 7, _ => rfl
    | 8, _ => rfl
  have HC := Lib.hid cells
  have HF3 : Hid ((w2.alloc (.cells #[.iface 180 (.pointer (some (E 0))), .iface 180 (.pointer (some (E 1))), .iface 180 (.pointer (some (E 2))), .iface 180 (.pointer (some (E 3))), .iface 180 (.pointer (some (E 4))), .iface 180 (.pointer (some (E 5))), .iface 180 (.pointer (some (E 6))), .iface 180 (.pointer (some (E 7))), .iface 180 (.pointer (some (E 8)))] 25)).cell? ⟨F, 1, none⟩ = some (sentV (E k))) := Lib.hid (by rw [World.cell?_alloc_past _ _ _ (lt_of_block HF2.out)]; simp [World.cell?, HF2.out])
  have HX3 : Hid (Ext w (w2.alloc (.cells #[.iface 180 (.pointer (some (E 0))), .iface 180 (.pointer (some (E 1))), .iface 180 (.pointer (some (E 2))), .iface 180 (.pointer (some (E 3))), .iface 180 (.pointer (some (E 4))), .iface 180 (.pointer (some (E 5))), .iface 180 (.pointer (some (E 6))), .iface 180 (.pointer (some (E 7))), .iface 180 (.pointer (some (E 8)))] 25))) := Lib.hid (HX.out.alloc _)
  have HE3 := Lib.hid (HE.out.ext HX3.out)
  clear cells hF0 ct zt c0 c1 c2 c3 c4 c5 c6 c7 c8
  generalize hw3 : (w2.alloc (.cells #[.iface 180 (.pointer (some (E 0))), .iface 180 (.pointer (some (E 1))), .iface 180 (.pointer (some (E 2))), .iface 180 (.pointer (some (E 3))), .iface 180 (.pointer (some (E 4))), .iface 180 (.pointer (some (E 5))), .iface 180 (.pointer (some (E 6))), .iface 180 (.pointer (some (E 7))), .iface 180 (.pointer (some (E 8)))] 25)) = w3 at *
  clear hw3
  go_loop [3, 27] (fun p c => ∃ i : Nat, i ≤ k ∧ p = .int .i64 a ∧ c = .int .i64 i) (fun _ c => k - (intOf c).toNat)
  case atStart => exact ⟨0, by omega, rfl, rfl⟩
  case round =>
    obtain ⟨i, hi, rfl, rfl⟩ := hrel
    have hc := HC.out i (by omega)
    obtain ⟨ca, ta, ha⟩ := HE3.out.row k hk
    obtain ⟨cb, tb, hb⟩ := HE3.out.row i (by omega)
    have HA := Lib.hid ha
    have HB := Lib.hid hb
    clear ha hb
    by_cases hik : i = k
    · subst hik
      go_wp2_with fail
      refine (is_fault_same F _ _ HF3.out).mono ?_
      rintro e w4 ⟨rfl, rfl⟩
      go_wp2_with fail
      go_ret2
      exact ⟨rfl, HX3.out⟩
    · have hne := HE3.out.ne k i hk (by omega) (fun e => hik e.symm)
      have HN := Lib.hid hne
      clear hne
      go_wp2_with fail
      refine (is_fault_other F _ _ ca cb ta tb _ HF3.out HN.out HA.out HB.out).mono ?_
      rintro e w4 ⟨rfl, rfl⟩
      go_wp2_with fail
      go_round
      case rel => exact ⟨i + 1, by omega, rfl, by go_num⟩
      case measure => simp [intOf]; omega
theorem code_any (w : World) (E : Nat → Addr) (hE : Errs w E) (v : Value) (c a : Int) (h : ErrV w E v c a) : Calls Tryd.prog 49 #[v] w fun e w' => e = .returned (.tuple #[.int .i64 c, .int .i64 a]) ∧ Ext w w' := by
  cases h with
  | nil => exact code_nil w
  | sent k hk => exact code_sent w E hE k hk
  | fault k F a hk h h1 h2 => exact code_fault w E hE k F a hk h
end Go.Proofs.YtdeiolagnheihaaDoor
namespace Go.Proofs.YtdeiolagnheihaaDoor
open Go.RowKit
set_option maxRecDepth 100000
theorem get_bound (B o a : Nat) (width : Int) (s : ByteArray) (w : World) (E : Nat → Addr) (hE : Errs w E) (_hR : RAt w B o s a) (h1 : -9223372036854775808 ≤ width) (h2 : width ≤ 9223372036854775807) (h : width < 0 ∨ 32 < width) :
    Calls Tryd.prog 46 #[.pointer (some ⟨B, o, none⟩), .int .i64 width] w fun e w' => e = .returned (.tuple #[.int .u32 0, sentV (E 1)]) ∧ Ext w w' := by
  have c1 := hE.var 1 (by decide)
  simp only [gk, sentV] at c1
  clear hE
  rcases h with h0 | h0
  · go_enter Tryd.func46, Tryd.ntmps46
    go_wp2
    go_quiet (fail)
    go_wp2
    go_ret2
    exact ⟨rfl, by repeat (first | exact Ext.refl _ | refine Ext.drewN ?_ _)⟩
  · go_enter Tryd.func46, Tryd.ntmps46
    go_wp2
    go_quiet (fail)
    go_wp2
    go_ret2
    exact ⟨rfl, by repeat (first | exact Ext.refl _ | refine Ext.drewN ?_ _)⟩
structure Er2 (w : World) (E : Nat → Addr) : Prop where
  c0 : w.cell? ⟨2, 0, none⟩ = some (.iface 180 (.pointer (some (E 0))))
  c1 : w.cell? ⟨0, 0, none⟩ = some (.iface 180 (.pointer (some (E 1))))
theorem Er2.ext {w w' : World} {E : Nat → Addr} (h : Er2 w E) (hE : Ext w w') : Er2 w' E :=
  ⟨(hE.cell (p := ⟨2, 0, none⟩) (World.block_lt_of_cell? w _ h.c0)).trans h.c0, (hE.cell (p := ⟨0, 0, none⟩) (World.block_lt_of_cell? w _ h.c1)).trans h.c1⟩
theorem Errs.er2 {w : World} {E : Nat → Addr} (h : Errs w E) : Er2 w E := ⟨h.var 0 (by decide), h.var 1 (by decide)⟩
theorem get_text2 (B o a k : Nat) (s : ByteArray) (w : World) (E : Nat → Addr) (hE : Er2 w E) (hR : RAt w B o s a) (hk : k ≤ 32) (ha : 8 * s.size < a + k) (_ha2 : a ≤ 8 * s.size) :
    Calls Tryd.prog 46 #[.pointer (some ⟨B, o, none⟩), .int .i64 (k : Int)] w fun e w' => e = .returned (.tuple #[.int .u32 0, sentV (E 0)]) ∧ Ext w w' := by
  have c1 := hE.c0
  clear hE
  go_enter Tryd.func46, Tryd.ntmps46
  go_wp2_with fail
  refine (left_calls B o a s _ hR).mono ?_
  rintro e w2 ⟨rfl, m, rfl⟩
  go_wp2_with fail
  go_quiet (fail)
  go_wp2
  unfold sentV
  go_ret2
  exact ⟨rfl, by repeat (first | exact Ext.refl _ | refine Ext.drewN ?_ _)⟩
theorem get_text (B o a k : Nat) (s : ByteArray) (w : World) (E : Nat → Addr) (hE : Errs w E) (hR : RAt w B o s a) (hk : k ≤ 32) (ha : 8 * s.size < a + k) (ha2 : a ≤ 8 * s.size) :
    Calls Tryd.prog 46 #[.pointer (some ⟨B, o, none⟩), .int .i64 (k : Int)] w fun e w' => e = .returned (.tuple #[.int .u32 0, sentV (E 0)]) ∧ Ext w w' :=
  get_text2 B o a k s w E hE.er2 hR hk ha ha2
end Go.Proofs.YtdeiolagnheihaaDoor
namespace Go.Proofs.YtdeiolagnheihaaDoor
open Go.RowKit
set_option maxRecDepth 100000
structure LSt (w wr : World) (R U : Nat) (s : ByteArray) (c wd most : Nat) (L : List ByteArray) (size : Nat) (last : ByteArray) (out : List UInt8) (a : Nat) (v o : Value) : Prop where
  rd : RAt wr R 0 s a
  ua : UAt wr U v (c + 2 + L.length) (wv c L) (.int .i64 (size : Int)) (.string last)
  row : wr.ownsRow w.heap.size 5 1 o out.length (bytesV out)
  old : Ext w wr
  hR : w.heap.size ≤ R
  hU : w.heap.size ≤ U
  ne : R ≠ U
  vR : v.ownBlock ≠ some R
  vn : ∀ k, v.ownBlock = some k → w.heap.size ≤ k
  oR : o.ownBlock ≠ some R
  oU : o.ownBlock ≠ some U
  ov : ∀ k, o.ownBlock = some k → v.ownBlock ≠ some k
  ok : Lz.Ok c wd most L size last out
  le : a ≤ 8 * s.size
theorem LSt.ltR {w wr : World} {R U c wd most size a : Nat} {s last : ByteArray} {L : List ByteArray} {out : List UInt8} {v o : Value} (h : LSt w wr R U s c wd most L size last out a v o) : R < wr.heap.size := World.block_lt_of_cell? wr _ h.rd.c0
/-- the reader has gone on -/
theorem LSt.get {w wr w' : World} {R U c wd most size a a' : Nat} {s last : ByteArray} {L : List ByteArray} {out : List UInt8} {v o : Value} (h : LSt w wr R U s c wd most L size last out a v o) (hr : RAt w' R 0 s a') (hs : RStep wr w' R 0) (ha : a' ≤ 8 * s.size) :
    LSt w w' R U s c wd most L size last out a' v o := by
  have hn : ∀ k, v.ownBlock = some k → ¬ k = R := fun k hk e => h.vR (e ▸ hk)
  have hn2 : ∀ k, o.ownBlock = some k → ¬ k = R := fun k hk e => h.oR (e ▸ hk)
  exact ⟨hr, ⟨h.ua.bk.keeps hs.keeps (fun e => h.ne e.symm), ownsRow_kept h.ua.row hs.keeps hn, h.ua.ne⟩, ownsRow_kept h.row hs.keeps hn2,
    Below.trans h.old (hs.keeps.below h.old.size (fun k hk e => by have := h.hR; omega)), h.hR, h.hU, h.ne, h.vR, h.vn, h.oR, h.oU, h.ov, h.ok, ha⟩
theorem LSt.ext {w wr w' : World} {R U c wd most size a : Nat} {s last : ByteArray} {L : List ByteArray} {out : List UInt8} {v o : Value} (h : LSt w wr R U s c wd most L size last out a v o) (hE : Ext wr w') :
    LSt w w' R U s c wd most L size last out a v o :=
  ⟨⟨(hE.cell (p := ⟨R, 0, none⟩) h.ltR).trans h.rd.c0, (hE.cell (p := ⟨R, 0 + 1, none⟩) h.ltR).trans h.rd.c1, (hE.frozen (p := ⟨R, 0 + 1, none⟩) h.ltR).trans h.rd.f1, h.rd.size, h.rd.le⟩, h.ua.ext hE,
    ownsRow_kept h.row (hE.keeps (S := fun _ => False)) (fun _ _ q => q), h.old.trans hE, h.hR, h.hU, h.ne, h.vR, h.vn, h.oR, h.oU, h.ov, h.ok, h.le⟩
theorem RAt.keeps {S : Nat → Prop} {w w' : World} {B o a : Nat} {s : ByteArray} (h : RAt w B o s a) (hk : Keeps S w w') (hn : ¬ S B) : RAt w' B o s a := by
  have hl : B < w.heap.size := World.block_lt_of_cell? w _ h.c0
  exact ⟨(hk.cell (p := ⟨B, o, none⟩) hl hn).trans h.c0, (hk.cell (p := ⟨B, o + 1, none⟩) hl hn).trans h.c1, (hk.frozen (p := ⟨B, o + 1, none⟩) hl hn).trans h.f1, h.size, h.le⟩
/-- all words are cleared -/
theorem LSt.clear {w wr w' : World} {R U c wd most size a : Nat} {s last : ByteArray} {L : List ByteArray} {out : List UInt8} {v o v' : Value} (h : LSt w wr R U s c wd most L size last out a v o) (hc : c + 2 ≤ 4096) (hw : 2 ≤ wd) (hw2 : wd ≤ 8)
    (hA : UAt w' U v' (c + 2) (wv c []) (.int .i64 ((wd : Int) + 1)) (.string ⟨#[]⟩)) (hK : Keeps (fun k => k = U) wr w') (hn : ∀ k, v'.ownBlock = some k → wr.heap.size ≤ k) :
    LSt w w' R U s c wd most [] (wd + 1) ByteArray.empty out a v' o := by
  have hl := h.ltR
  have hz := h.old.size
  refine ⟨h.rd.keeps hK h.ne, hA, ownsRow_kept h.row hK (fun k hk e => h.oU (e ▸ hk)), Below.trans h.old (hK.below hz (fun k hk e => by have := h.hU; omega)), h.hR, h.hU, h.ne, fun e => by have := hn R e; omega,
    fun k hk => by have := hn k hk; omega, h.oR, h.oU, fun k hk e => by have h1 := hn k e; have h2 := (h.row.lt k hk).2; omega, Lz.Ok.fresh hc hw hw2 h.ok.out, h.le⟩
/-- a word has been read, and the list has grown by one -/
theorem LSt.word {w wr w' : World} {R U c wd most size size' a : Nat} {s last last' : ByteArray} {L L' : List ByteArray} {out : List UInt8} {v o v' : Value} (h : LSt w wr R U s c wd most L size last out a v o)
    (_hA : UAt w' U v' (c + 2 + L'.length) (wv c L') (.int .i64 (size' : Int)) (.string last')) (hS : UStep wr w' U v v') :
    RAt w' R 0 s a ∧ w'.ownsRow w.heap.size 5 1 o out.length (bytesV out) ∧ Ext w w' ∧ v'.ownBlock ≠ some R ∧ (∀ k, v'.ownBlock = some k → w.heap.size ≤ k) ∧ (∀ k, o.ownBlock = some k → v'.ownBlock ≠ some k) := by
  have hl := h.ltR
  have hz := h.old.size
  refine ⟨h.rd.keeps hS.keeps (fun e => e.elim h.ne h.vR), ownsRow_kept h.row hS.keeps (fun k hk e => e.elim (fun e => h.oU (e ▸ hk)) (h.ov k hk)), Below.trans h.old (hS.keeps.below hz (fun k hk e => e.elim (fun e => by have := h.hU; omega) (fun e => by have := h.vn k e; omega))), ?_, ?_, ?_⟩
  · intro e
    rcases hS.new R e with q | q
    · exact h.vR q
    · omega
  · intro k hk
    rcases hS.new k hk with q | q
    · exact h.vn k q
    · omega
  · intro k hk e
    rcases hS.new k e with q | q
    · exact h.ov k hk q
    · have := (h.row.lt k hk).2; omega
/-- a row of bytes lies in no block that begins with something else -/
theorem row_apart {w : World} {base n k : Nat} {o x : Value} {l : List UInt8} (h : w.ownsRow base 5 1 o n (bytesV l)) (hn : 0 < n) (hl : 0 < l.length) (hx : w.cell? ⟨k, 0, none⟩ = some x) (hne : ∀ z, x ≠ .int .u8 z) : o.ownBlock ≠ some k := by
  intro e
  obtain ⟨g, cap, rfl, _, _⟩ := ownsRow_some h hn
  obtain rfl : g = k := Option.some.inj (show some g = some k from e)
  have hc := h.cellAt 0 (by omega)
  rw [bytesV_get l 0 hl, hx] at hc
  exact hne _ (Option.some.inj hc)
/-- the word has been laid behind the text -/
theorem LSt.push {w wr w1 w' : World} {R U c wd most size size' a : Nat} {s last x : ByteArray} {L L' : List ByteArray} {out : List UInt8} {v v' o o' : Value} (h : LSt w wr R U s c wd most L size last out a v o)
    (hA : UAt w1 U v' (c + 2 + L'.length) (wv c L') (.int .i64 (size' : Int)) (.string x)) (hS : UStep wr w1 U v v') (hc : 0 < c) (hx : x.size ≠ 0) (hok : Lz.Ok c wd most L' size' x (out ++ x.data.toList))
    (hg : w1.grownBy w' o.ownBlock) (ho : w'.ownsRow w.heap.size 5 1 o' (out.length + x.size) (bytesV out ++ Lib.strCells x)) :
    LSt w w' R U s c wd most L' size' x (out ++ x.data.toList) a v' o' := by
  obtain ⟨p1, p2, p3, p4, p5, p6⟩ := h.word hA hS
  have hK := Keeps.grown hg
  have hrd := p1.keeps hK h.oR
  obtain ⟨q1, q2⟩ := grow_str p3 p2 hg ho
  have hl : (out ++ x.data.toList).length = out.length + x.size := by rw [List.length_append, list_size]
  have hpos : 0 < (out ++ x.data.toList).length := by omega
  have hbk : Bk w' U _ := hA.bk.keeps hK h.oU
  have hrow := ownsRow_kept hA.row hK (fun k hk e => p6 k e hk)
  rw [← hl] at q1
  refine ⟨hrd, ⟨hbk, hrow, hA.ne⟩, q1, q2, h.hR, h.hU, h.ne, p4, p5, ?_, ?_, ?_, hok, h.le⟩
  · exact row_apart q1 hpos hpos hrd.c0 (fun z e => by cases e)
  · refine row_apart q1 hpos hpos (hbk.cell 0) (fun z e => ?_)
    have e2 : v' = .int .u8 z := e
    obtain ⟨xo, cc, hlit⟩ := lit_row hA.row
    rw [hlit] at e2; cases e2
  · intro k hk e
    obtain ⟨g, cap, hv, _, _⟩ := ownsRow_some hrow (by omega)
    have hgk : g = k := by rw [hv] at e; exact Option.some.inj (show some g = some k from e)
    subst hgk
    rw [hv] at hrow
    refine row_apart q1 hpos hpos (x := .string (Lz.one 0)) ?_ (fun z e => by cases e) hk
    rw [hrow.cellAt 0 (by omega)]
    exact wv_low L' hc
end Go.Proofs.YtdeiolagnheihaaDoor
