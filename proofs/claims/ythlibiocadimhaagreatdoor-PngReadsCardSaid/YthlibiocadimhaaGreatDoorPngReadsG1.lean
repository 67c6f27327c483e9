/-
  Short names.
  Small laws on memory: which blocks a call may have turned. No function of the program is named.
  Blocks that are known whole: variables that a call made. No function of the program is named.
  A map whose keys are ints, in memory.
  Plain law of pixels over pixels: the numbers. No program in sight.
  Pixels as four numbers. No function of the program is named.
  Rows of cells of whole numbers of one kind: arrays and slices that a call made. No function of the program is named.
  Rows of pixels as they lie in memory. No function of the program is named.
  Pictures: small functions.
  A map whose keys are pixels, in memory.
  Pictures as files: the palette, plain, and as it grows in memory. No function of the program is named.
  A strings.Builder that a call has made itself: what its memory says; WriteString, Len, String.
  The world of a region that draws its order, under a name. No function of the program is named.
  png.palette.
  Arguments and package variables, opened to cells: slices of records, sentinels of errors.
  Rows foretold: foretell, at, check, and what is done and undone, as lists.
  Plain law of the CRC: a step, eight of them, a byte by the table. No program in sight.
  Plain law of bursts: bits turned within 32 in a row change the CRC. No program in sight.
  A writer of bits: what its memory says (a number and how many bits), and the contract of 'one'.
  Bits as texts of '0' and '1'. No program in sight.
  The document's bits: Byte, Low, High.
  Put, and what else a writer does: contracts in terms of its number and its count.
  A reader of bits: contracts in terms of its text's number and its place.
  A writer that is new; what a writer, a reader did touched only new blocks. No function of the program is named.
  Tokens: what they mean, as lists; rows of tokens as they lie in memory; a row of bytes that grows. No function of the program is named.
  A reader of bits: Align.
  A reader of bits: Bytes.
  A text in blocks, and back: the plain law; rows of bytes that grow. No function of the program is named.
  A row of bytes that grew out of a string: its block bears a mark behind its end. Appending strings to it. No function of the program is named.
  append of a text's bytes to a row of one's own: where the new row lies. No function of the program is named.
  Turned: bits, the highest first.
  Quiet regions that draw, step by step (as in XRfA; for seats without the reader).
  Rows of cells of whatever values. No function of the program is named.
-/
import Derived.Test.YthlibiocadimhaaGreatDoorProg
import Derived.BigQuiet
import Derived.Deep.AppendLies
import Derived.Deep.CutBlock
import Derived.Deep.DeepCutAuto
import Derived.Deep.DrawnRows
import Derived.Deep.Fields
import Derived.Deep.Onto
import Derived.Deep.OwnRows
import Derived.Deep.RegionHeld3
import Derived.Deep.WholeRow
import Derived.LaidMore
import Derived.LaidSub
import Derived.Laws.AppendOwnNone
import Derived.Laws.CopyOwn
import Derived.Laws.EntriesVeiled
import Derived.Lib.AppendZerosOnto
import Derived.Lib.ConvBytes
import Derived.Lib.Hide
import Derived.Lib.LaidTab
import Derived.Lib.Mul64
import Derived.OpenShut
import Derived.ProofKit
import Derived.SevenTiedAt
import Derived.Shelf.RegionOpenPlain
import Derived.ShutString
import Derived.StillTailTactics
import Derived.Stop.Asserts
import Derived.Stop.LaidTwo
import Derived.WalkLawsBesides
import Derived.WalkSpells
set_option linter.all false
set_option maxRecDepth 100000
namespace Go.Proofs.YthlibiocadimhaaGreatDoor
open Go.RowKit
theorem qaa:type_of% @List.length_append:=@List.length_append
theorem qab:type_of% @World.block_lt_of_cell?:=@World.block_lt_of_cell?
theorem qac:type_of% @if_neg:=@if_neg
theorem qad:type_of% @if_pos:=@if_pos
theorem qae:type_of% @decide_eq_true:=@decide_eq_true
theorem qaf:type_of% @decide_eq_false:=@decide_eq_false
theorem qag:type_of% @Below.drew:=@Below.drew
theorem qah:type_of% @World.cell?_setCell_other:=@World.cell?_setCell_other
theorem qai:type_of% @List.getElem?_eq_getElem:=@List.getElem?_eq_getElem
theorem qaj:type_of% @Nat.le_refl:=@Nat.le_refl
theorem qak:type_of% @beq_eq_false_iff_ne:=@beq_eq_false_iff_ne
theorem qal:type_of% @IntKind.wrap_i64:=@IntKind.wrap_i64
theorem qam:type_of% @Nat.le_trans:=@Nat.le_trans
theorem qan:type_of% @List.take_of_length_le:=@List.take_of_length_le
theorem qao:type_of% @List.take_succ_cons:=@List.take_succ_cons
theorem qap:type_of% @World.frozen?_setCell:=@World.frozen?_setCell
theorem qaq:type_of% @Nat.pow_le_pow_right:=@Nat.pow_le_pow_right
theorem qar:type_of% @wp_region_held_drew:=@wp_region_held_drew
theorem qas:type_of% @Result.andThen_ok:=@Result.andThen_ok
theorem qat:type_of% @List.append_assoc:=@List.append_assoc
theorem qau:type_of% @ByteArray.size_extract:=@ByteArray.size_extract
theorem qav:type_of% @List.eq_nil_of_length_eq_zero:=@List.eq_nil_of_length_eq_zero
theorem qaw:type_of% @List.drop_succ_cons:=@List.drop_succ_cons
theorem qax:type_of% @List.length_take:=@List.length_take
theorem qay:type_of% @List.getElem?_cons_zero:=@List.getElem?_cons_zero
theorem qaz:type_of% @List.getElem?_toArray:=@List.getElem?_toArray
theorem qaA:type_of% @Nat.lt_of_lt_of_le:=@Nat.lt_of_lt_of_le
theorem qaB:type_of% @And.intro:=@And.intro
theorem qaC:type_of% @List.getElem?_cons_succ:=@List.getElem?_cons_succ
theorem qaD:type_of% @wp_region_still_tail:=@wp_region_still_tail
theorem qaE:type_of% @Nat.mul_le_mul:=@Nat.mul_le_mul
theorem qaF:type_of% @Nat.mod_eq_of_lt:=@Nat.mod_eq_of_lt
theorem qaG:type_of% @List.map_cons:=@List.map_cons
theorem qaH:type_of% @List.take_zero:=@List.take_zero
theorem qaI:type_of% @ownsRow_setCell_other:=@ownsRow_setCell_other
theorem qaJ:type_of% @Nat.mul_comm:=@Nat.mul_comm
theorem qaK:type_of% @World.ownsRow_nil:=@World.ownsRow_nil
theorem qaL:type_of% @Below.setCell:=@Below.setCell
theorem qaM:type_of% @AllReadyH.cons:=@AllReadyH.cons
theorem qaN:type_of% @List.mem_singleton:=@List.mem_singleton
theorem qaO:type_of% @Array.getD_eq_getD_getElem?:=@Array.getD_eq_getD_getElem?
theorem qaP:type_of% @decide_eq_true_iff:=@decide_eq_true_iff
theorem qaQ:type_of% @List.mem_cons_of_mem:=@List.mem_cons_of_mem
theorem qaR:type_of% @List.length_cons:=@List.length_cons
theorem qaS:type_of% @List.drop_zero:=@List.drop_zero
theorem qaT:type_of% @List.length_replicate:=@List.length_replicate
theorem qaU:type_of% @of_decide_eq_true:=@of_decide_eq_true
theorem qaV:type_of% @World.cell?_alloc_at:=@World.cell?_alloc_at
theorem qaW:type_of% @Nat.mul_le_mul_right:=@Nat.mul_le_mul_right
theorem qaX:type_of% @Nat.add_sub_cancel:=@Nat.add_sub_cancel
theorem qaY:type_of% @List.getD_eq_getElem?_getD:=@List.getD_eq_getElem?_getD
theorem qaZ:type_of% @bodyPost_ret:=@bodyPost_ret
theorem qa0:type_of% @World.cell?_setCell_same:=@World.cell?_setCell_same
theorem qa1:type_of% @Nat.pow_succ:=@Nat.pow_succ
theorem qa2:type_of% @List.cons_append:=@List.cons_append
theorem qa3:type_of% @List.mem_append:=@List.mem_append
theorem qa4:type_of% @of_decide_eq_false:=@of_decide_eq_false
theorem qa5:type_of% @List.mem_of_getElem?:=@List.mem_of_getElem?
theorem qa6:type_of% @Nat.add_assoc:=@Nat.add_assoc
theorem qa7:type_of% @List.getElem?_eq_some_iff:=@List.getElem?_eq_some_iff
theorem qa8:type_of% @Nat.lt_or_ge:=@Nat.lt_or_ge
theorem qa9:type_of% @List.map_nil:=@List.map_nil
theorem qba:type_of% @List.getElem?_eq_none:=@List.getElem?_eq_none
theorem qbb:type_of% @info_parts:=@info_parts
theorem qbc:type_of% @List.mem_cons_self:=@List.mem_cons_self
theorem qbd:type_of% @List.mem_cons:=@List.mem_cons
theorem qbe:type_of% @List.getElem_cons_zero:=@List.getElem_cons_zero
theorem qbf:type_of% @List.getElem_cons_succ:=@List.getElem_cons_succ
theorem qbg:type_of% @List.map_toArray:=@List.map_toArray
theorem qbh:type_of% @List.length_drop:=@List.length_drop
theorem qbi:type_of% @Nat.zero_le:=@Nat.zero_le
theorem qbj:type_of% @List.getElem?_append_left:=@List.getElem?_append_left
theorem qbk:type_of% @Array.getElem?_modify:=@Array.getElem?_modify
theorem qbl:type_of% @beq_iff_eq:=@beq_iff_eq
theorem qbm:type_of% @Int.toNat_natCast:=@Int.toNat_natCast
theorem qbn:type_of% @Option.getD_some:=@Option.getD_some
theorem qbo:type_of% @run_callFunc_extern:=@run_callFunc_extern
theorem qbp:type_of% @ByteArray.toList_eq:=@ByteArray.toList_eq
theorem qbq:type_of% @Option.map_eq_some_iff:=@Option.map_eq_some_iff
theorem qbr:type_of% @Nat.mul_assoc:=@Nat.mul_assoc
theorem qbs:type_of% @List.map_append:=@List.map_append
theorem qbt:type_of% @run_convert_bytes_back:=@run_convert_bytes_back
theorem qbu:type_of% @Sem.run_bind:=@Sem.run_bind
theorem qbv:type_of% @World.ownsRow.lt:=@World.ownsRow.lt
theorem qbw:type_of% @Nat.lt_succ_iff_lt_or_eq:=@Nat.lt_succ_iff_lt_or_eq
theorem qbx:type_of% @List.nil_append:=@List.nil_append
theorem qby:type_of% @List.length_singleton:=@List.length_singleton
theorem qbz:type_of% @ByteArray.size_append:=@ByteArray.size_append
theorem qbA:type_of% @List.getElem?_append_right:=@List.getElem?_append_right
theorem qbB:type_of% @wpStill_nil:=@wpStill_nil
theorem qbC:type_of% @List.range_succ:=@List.range_succ
theorem qbD:type_of% @List.getElem_toArray:=@List.getElem_toArray
theorem qbE:type_of% @World.frozen?_alloc_at:=@World.frozen?_alloc_at
theorem qbF:type_of% @Nat.div_div_eq_div_mul:=@Nat.div_div_eq_div_mul
theorem qbG:type_of% @MapKept.run_getObj_map:=@MapKept.run_getObj_map
theorem qbH:type_of% @Array.mem_iff_getElem?:=@Array.mem_iff_getElem?
theorem qbI:type_of% @UInt8.toNat_ofNat':=@UInt8.toNat_ofNat'
theorem qbJ:type_of% @List.take_succ_eq_append_getElem:=@List.take_succ_eq_append_getElem
theorem qbK:type_of% @lt_of_block:=@lt_of_block
theorem qbL:type_of% @bne_eq_false_iff_eq:=@bne_eq_false_iff_eq
theorem qbM:type_of% @Sem.run_pure:=@Sem.run_pure
theorem qbN:type_of% @Nat.two_pow_pos:=@Nat.two_pow_pos
theorem qbO:type_of% @run_underlying:=@run_underlying
theorem qbP:type_of% @heap_alloc_new:=@heap_alloc_new
theorem qbQ:type_of% @Lib.cell_of_heap:=@Lib.cell_of_heap
theorem qbR:type_of% @run_make_row':=@run_make_row'
theorem qbS:type_of% @List.take_add_one:=@List.take_add_one
theorem qbT:type_of% @Nat.mod_two_eq_zero_or_one:=@Nat.mod_two_eq_zero_or_one
theorem qbU:type_of% @Array.mem_toList_iff:=@Array.mem_toList_iff
theorem qbV:type_of% @Nat.mod_lt:=@Nat.mod_lt
theorem qbW:type_of% @List.append_nil:=@List.append_nil
theorem qbX:type_of% @Bool.eq_iff_iff:=@Bool.eq_iff_iff
theorem qbY:type_of% @Nat.pow_add:=@Nat.pow_add
theorem qbZ:type_of% @Nat.add_mul:=@Nat.add_mul
theorem qb0:type_of% @List.eq_of_mem_replicate:=@List.eq_of_mem_replicate
theorem qb1:type_of% @Decidable.not_not:=@Decidable.not_not
theorem qb2:type_of% @wpAnyH_take:=@wpAnyH_take
theorem qb3:type_of% @World.cell?_alloc_lt:=@World.cell?_alloc_lt
theorem qb4:type_of% @ByteArray.data_extract:=@ByteArray.data_extract
theorem qb5:type_of% @List.size_toArray:=@List.size_toArray
theorem qb6:type_of% @Option.some.inj:=@Option.some.inj
theorem qb7:type_of% @BitVec.toNat_ofNat:=@BitVec.toNat_ofNat
theorem qb8:type_of% @World.size_alloc:=@World.size_alloc
theorem qb9:type_of% @BitVec.ofInt_natCast:=@BitVec.ofInt_natCast
theorem qca:type_of% @Array.toList_extract:=@Array.toList_extract
theorem qcb:type_of% @AllReadyH.nil:=@AllReadyH.nil
theorem qcc:type_of% @Nat.succ_mul:=@Nat.succ_mul
theorem qcd:type_of% @Nat.add_zero:=@Nat.add_zero
theorem qce:type_of% @bne_iff_ne:=@bne_iff_ne
theorem qcf:type_of% @Nat.min_eq_left:=@Nat.min_eq_left
theorem qcg:type_of% @Int.tmod_eq_emod_of_nonneg:=@Int.tmod_eq_emod_of_nonneg
theorem qch:type_of% @wpAnyH_ready:=@wpAnyH_ready
theorem qci:type_of% @Nat.xor_lt_two_pow:=@Nat.xor_lt_two_pow
theorem qcj:type_of% @UInt8.toNat_lt:=@UInt8.toNat_lt
theorem qck:type_of% @Array.getElem?_eq_getElem:=@Array.getElem?_eq_getElem
theorem qcl:type_of% @List.mem_append_left:=@List.mem_append_left
theorem qcm:type_of% @List.length_map:=@List.length_map
theorem qcn:type_of% @List.getElem?_take_of_lt:=@List.getElem?_take_of_lt
theorem qco:type_of% @Below.refl:=@Below.refl
theorem qcp:type_of% @Nat.sub_self:=@Nat.sub_self
theorem qcq:type_of% @Array.length_toList:=@Array.length_toList
theorem qcr:type_of% @Nat.div_eq_of_lt:=@Nat.div_eq_of_lt
theorem qcs:type_of% @IntKind.wrap_u32:=@IntKind.wrap_u32
theorem qct:type_of% @Nat.lt_of_le_of_lt:=@Nat.lt_of_le_of_lt
theorem qcu:type_of% @List.countP_append:=@List.countP_append
theorem qcv:type_of% @Below.heap_setCell:=@Below.heap_setCell
theorem qcw:type_of% @Nat.two_pow_add_eq_or_of_lt:=@Nat.two_pow_add_eq_or_of_lt
theorem qcx:type_of% @Nat.le_of_eq:=@Nat.le_of_eq
theorem qcy:type_of% @Nat.div_le_self:=@Nat.div_le_self
theorem qcz:type_of% @List.setIfInBounds_toArray:=@List.setIfInBounds_toArray
theorem qcA:type_of% @List.getElem_mem:=@List.getElem_mem
theorem qcB:type_of% @run_convert_bytes_string:=@run_convert_bytes_string
theorem qcC:type_of% @List.mem_map:=@List.mem_map
theorem qcD:type_of% @List.set_cons_zero:=@List.set_cons_zero
theorem qcE:type_of% @List.set_cons_succ:=@List.set_cons_succ
theorem qcF:type_of% @List.length_set:=@List.length_set
theorem qcG:type_of% @Nat.testBit_eq_decide_div_mod_eq:=@Nat.testBit_eq_decide_div_mod_eq
theorem qcH:type_of% @run_append_own_at:=@run_append_own_at
theorem qcI:type_of% @Nat.mod_one:=@Nat.mod_one
theorem qcJ:type_of% @List.flatMap_cons:=@List.flatMap_cons
theorem xa {α:Type}:type_of% (@qbD α):=@qbD α
theorem xb {α:Type}:type_of% (@qbf α):=@qbf α
theorem xc {α:Type}:type_of% (@qbe α):=@qbe α
theorem xd {α:Type}:type_of% (@qcz α):=@qcz α
theorem xe {α:Type}:type_of% (@qcD α):=@qcD α
theorem xf {α:Type}:type_of% (@qcE α):=@qcE α
theorem xg {α:Type}:type_of% (@qaz α):=@qaz α
theorem xh {α:Type}:type_of% (@qaC α):=@qaC α
theorem xi {α:Type}:type_of% (@qay α):=@qay α
theorem xz {α:Type}:type_of% (@qbD α)/\type_of% (@qbf α)/\type_of% (@qbe α)/\type_of% (@qcz α)/\type_of% (@qcD α)/\type_of% (@qcE α):=⟨xa,xb,xc,xd,xe,xf⟩
theorem tkG {P:Program} {ops:Array Oper} {Q:Exit->Act->World->Prop} {md:Region.Mode} {S:World->Prop} {oi:Oper} {v:Value} {fuel:Nat} {listed:Array Bool} {a:Act} {w:World} (i:Nat) (hi:ops[i]? =some oi) (hS:S w) (h:wpAnyH P md ops Q S fuel (listed.setIfInBounds i true) (a.put oi.dst v) w) (hy:∀w,S w->(execOp a.eval oi).run P w=.ok (.value v) w:=by intro w hSw;(try dsimp only at hSw);go_split_ands;go_simp;(try with_reducible rfl)) (hs:Region.noSelect ops=true:=by kernel_rfl) (hf:Region.free md ops listed i=true:=by kernel_rfl) (hr:(Region.ready md ops listed).contains i=true:=by kernel_rfl) (hQ:∀c a w,Q (.panic c) (a.put oi.dst v) w->Q (.panic c) a w:=by exact λ _ _ _ h=>h) (hg:Region.wanted oi (yielded ops a.tmps)=true:=by kernel_rfl):wpAnyH P md ops Q S (fuel+1) listed a w:=
 qb2 hi hs hf hr hQ (.inl ⟨hg,hy⟩) hS h
theorem tkH {P:Program} {ops:Array Oper} {Q:Exit->Act->World->Prop} {md:Region.Mode} {S:World->Prop} {oi:Oper} {v:Value} {fuel:Nat} {listed:Array Bool} {a a':Act} {w:World} (i:Nat) (h:wpAnyH P md ops Q S fuel (listed.setIfInBounds i true) a' w) (hi:ops[i]? =some oi:=by rfl) (hS:S w:=by first | exact hHeld | exact trivial) (hy:∀w,S w->(execOp a.eval oi).run P w=.ok (.value v) w:=by intro w hSw;(try dsimp only at hSw);go_split_ands;go_simp;(try with_reducible rfl)) (e:a.put oi.dst v=a':=by (try (conv=>lhs;simp only[Act.put,xz]));(first | done | rfl)) (hs:Region.noSelect ops=true:=by kernel_rfl) (hf:Region.free md ops listed i=true:=by kernel_rfl) (hr:(Region.ready md ops listed).contains i=true:=by kernel_rfl) (hQ:∀c a w,Q (.panic c) (a.put oi.dst v) w->Q (.panic c) a w:=by exact λ _ _ _ h=>h) (hg:Region.wanted oi (yielded ops a.tmps)=true:=by kernel_rfl):wpAnyH P md ops Q S (fuel+1) listed a w:=by
 subst e;exact qb2 hi hs hf hr hQ (.inl ⟨hg,hy⟩) hS h
theorem dT {p:Prop} [Decidable p] (h:p:=by omega):decide p=true:=qae h
theorem dF {p:Prop} [Decidable p] (h:¬ p:=by omega):decide p=false:=qaf h
theorem wqz {x:Int} (h: -9223372036854775808<=x/\x<=9223372036854775807:=by omega):∀z,z=x->IntKind.i64.wrap z=z:=by
 rintro _ rfl;rw[qal];omega
theorem nmE {α:Type} (a:α):∃q,a=q:=⟨a,rfl⟩
theorem Hd {p:Prop} (h:p):Hid p:=h
theorem skH {P:Program} {ops:Array Oper} {Q:Exit->Act->World->Prop} {md:Region.Mode} {S:World->Prop} {fuel:Nat} {listed:Array Bool} {a:Act} {w:World} {oi:Oper} (i:Nat) (hi:ops[i]? =some oi) (hS:S w) (h:wpAnyH P md ops Q S fuel (listed.setIfInBounds i true) (a.put oi.dst undef) w) (hs:Region.noSelect ops=true:=by kernel_rfl) (hf:Region.free md ops listed i=true:=by kernel_rfl) (hr:(Region.ready md ops listed).contains i=true:=by kernel_rfl) (hQ:∀c a w,Q (.panic c) (a.put oi.dst undef) w->Q (.panic c) a w:=by exact λ _ _ _ h=>h) (hg:Region.wanted oi (yielded ops a.tmps)=false:=by kernel_rfl):wpAnyH P md ops Q S (fuel+1) listed a w:=
 qb2 hi hs hf hr hQ (.inr ⟨hg,rfl⟩) hS h
theorem rdH {P:Program} {ops:Array Oper} {Q:Exit->Act->World->Prop} {md:Region.Mode} {S:World->Prop} {fuel:Nat} {listed:Array Bool} {a:Act} {w:World} {o:Oper} (i:Nat) (ho:ops[i]? =some o) (h:∀K':Act->World->Prop,Shut (∀a w,S w->(S w->wpAnyH P md ops Q S fuel (listed.setIfInBounds i true) a w)->K' a w)->if Region.wanted o (yielded ops a.tmps)=true then Oper.wp P o a w K' Q else K' (a.put (Oper.dst o) undef) w) (hr:Region.ready md ops listed=[i]:=by kernel_rfl):wpAnyH P md ops Q S (fuel+1) listed a w:=qch hr (by simp) (qaM ho h qcb)
theorem rdH2 {P:Program} {ops:Array Oper} {Q:Exit->Act->World->Prop} {md:Region.Mode} {S:World->Prop} {fuel:Nat} {listed:Array Bool} {a:Act} {w:World} {o p:Oper} (i j:Nat) (ho:ops[i]? =some o) (hp:ops[j]? =some p) (h:∀K':Act->World->Prop,Shut (∀a w,S w->(S w->wpAnyH P md ops Q S fuel (listed.setIfInBounds i true) a w)->K' a w)->if Region.wanted o (yielded ops a.tmps)=true then Oper.wp P o a w K' Q else K' (a.put (Oper.dst o) undef) w) (h2:∀K':Act->World->Prop,Shut (∀a w,S w->(S w->wpAnyH P md ops Q S fuel (listed.setIfInBounds j true) a w)->K' a w)->if Region.wanted p (yielded ops a.tmps)=true then Oper.wp P p a w K' Q else K' (a.put (Oper.dst p) undef) w) (hr:Region.ready md ops listed=[i,j]:=by kernel_rfl):wpAnyH P md ops Q S (fuel+1) listed a w:=qch hr (by simp) (qaM ho h (qaM hp h2 qcb))
theorem rgT {P:Program} {id:Nat} {ops:Array Oper} {Q:Exit->Act->World->Prop} {a:Act} {w:World} (h:wpAnyH P .any ops Q (λ _=>True) ops.size (Array.replicate ops.size false) a w.drew) (hm:P.follows .mixedOrders=true:=by kernel_rfl):(Code.region id ops true).wp P Q a w:=qar hm trivial λ _=>h
theorem dnT {P:Program} {ops:Array Oper} {Q:Exit->Act->World->Prop} {md:Region.Mode} {S:World->Prop} {fuel:Nat} {listed:Array Bool} {a:Act} {w:World} (h:Q .normal a w) (hr:Region.ready md ops listed=[]:=by kernel_rfl):wpAnyH P md ops Q S fuel listed a w:=wpAnyH_done hr h _
theorem rdT {P:Program} {ops:Array Oper} {Q:Exit->Act->World->Prop} {md:Region.Mode} {fuel:Nat} {listed:Array Bool} {a:Act} {w:World} {o:Oper} (i:Nat) (h:∀K':Act->World->Prop,Shut (∀a w,True->(True->wpAnyH P md ops Q (λ _=>True) fuel (listed.setIfInBounds i true) a w)->K' a w)->if Region.wanted o (yielded ops a.tmps)=true then Oper.wp P o a w K' Q else K' (a.put (Oper.dst o) undef) w) (ho:ops[i]? =some o:=by rfl) (hr:Region.ready md ops listed=[i]:=by kernel_rfl):wpAnyH P md ops Q (λ _=>True) (fuel+1) listed a w:=qch hr (by simp) (qaM ho h qcb)
theorem rdT2 {P:Program} {ops:Array Oper} {Q:Exit->Act->World->Prop} {md:Region.Mode} {fuel:Nat} {listed:Array Bool} {a:Act} {w:World} {o p:Oper} (i j:Nat) (h:∀K':Act->World->Prop,Shut (∀a w,True->(True->wpAnyH P md ops Q (λ _=>True) fuel (listed.setIfInBounds i true) a w)->K' a w)->if Region.wanted o (yielded ops a.tmps)=true then Oper.wp P o a w K' Q else K' (a.put (Oper.dst o) undef) w) (h2:∀K':Act->World->Prop,Shut (∀a w,True->(True->wpAnyH P md ops Q (λ _=>True) fuel (listed.setIfInBounds j true) a w)->K' a w)->if Region.wanted p (yielded ops a.tmps)=true then Oper.wp P p a w K' Q else K' (a.put (Oper.dst p) undef) w) (ho:ops[i]? =some o:=by rfl) (hp:ops[j]? =some p:=by rfl) (hr:Region.ready md ops listed=[i,j]:=by kernel_rfl):wpAnyH P md ops Q (λ _=>True) (fuel+1) listed a w:=qch hr (by simp) (qaM ho h (qaM hp h2 qcb))
theorem oU {X K:Act->World->Prop} {a:Act} {w:World} (hK:Shut (∀a w,True->(True->X a w)->K a w)) (h:X a w):K a w:=hK.out _ _ trivial λ _=>h
theorem oT {X K:Act->World->Prop} {a a':Act} {w:World} (hK:Shut (∀a w,True->(True->X a w)->K a w)) (h:X a' w) (e:a=a':=by (try (conv=>lhs;simp only[Act.put,xz]));(first | done | rfl)):K a w:=by
 subst e;exact hK.out _ _ trivial λ _=>h
theorem oS {X K:Act->World->Prop} {S:World->Prop} {a a':Act} {w:World} (hK:Shut (∀a w,S w->(S w->X a w)->K a w)) (hS:S w) (h:S w->X a' w) (e:a=a':=by (try (conv=>lhs;simp only[Act.put,xz]));(first | done | rfl)):K a w:=by
 subst e;exact hK.out _ _ hS h
theorem tk2 {P:Program} {ops:Array Oper} {Q:Exit->Act->World->Prop} {md:Region.Mode} {S:World->Prop} {fuel:Nat} {listed:Array Bool} {a:Act} {w:World} {o0 o1:Oper} {v0 v1:Value} {a1 a2:Act} (i0 i1:Nat) (h:wpAnyH P md ops Q S fuel ((listed.setIfInBounds i0 true).setIfInBounds i1 true) a2 w) (hi0:ops[i0]? =some o0:=by rfl) (hS:S w:=by first | exact hHeld | exact trivial) (hy0:∀w,S w->(execOp a.eval o0).run P w=.ok (.value v0) w:=by intro w hSw;(try dsimp only at hSw);go_split_ands;go_simp;(try with_reducible rfl)) (e0:a.put o0.dst v0=a1:=by (try (conv=>lhs;simp only[Act.put,xz]));(first | done | rfl)) (hf0:Region.free md ops (listed) i0=true:=by kernel_rfl) (hr0:(Region.ready md ops (listed)).contains i0=true:=by kernel_rfl) (hQ0:∀c a w,Q (.panic c) (a.put o0.dst v0) w->Q (.panic c) a w:=by exact λ _ _ _ h=>h) (hg0:Region.wanted o0 (yielded ops a.tmps)=true:=by kernel_rfl) (hi1:ops[i1]? =some o1:=by rfl) (hy1:∀w,S w->(execOp a1.eval o1).run P w=.ok (.value v1) w:=by intro w hSw;(try dsimp only at hSw);go_split_ands;go_simp;(try with_reducible rfl)) (e1:a1.put o1.dst v1=a2:=by (try (conv=>lhs;simp only[Act.put,xz]));(first | done | rfl)) (hf1:Region.free md ops (listed.setIfInBounds i0 true) i1=true:=by kernel_rfl) (hr1:(Region.ready md ops (listed.setIfInBounds i0 true)).contains i1=true:=by kernel_rfl) (hQ1:∀c a w,Q (.panic c) (a.put o1.dst v1) w->Q (.panic c) a w:=by exact λ _ _ _ h=>h) (hg1:Region.wanted o1 (yielded ops a1.tmps)=true:=by kernel_rfl) (hs:Region.noSelect ops=true:=by kernel_rfl):wpAnyH P md ops Q S (fuel+2) listed a w:=by
 subst e1 e0;refine qb2 hi0 hs hf0 hr0 hQ0 (.inl ⟨hg0,hy0⟩) hS ?_;refine qb2 hi1 hs hf1 hr1 hQ1 (.inl ⟨hg1,hy1⟩) hS ?_;exact h
theorem tk3 {P:Program} {ops:Array Oper} {Q:Exit->Act->World->Prop} {md:Region.Mode} {S:World->Prop} {fuel:Nat} {listed:Array Bool} {a:Act} {w:World} {o0 o1 o2:Oper} {v0 v1 v2:Value} {a1 a2 a3:Act} (i0 i1 i2:Nat) (h:wpAnyH P md ops Q S fuel (((listed.setIfInBounds i0 true).setIfInBounds i1 true).setIfInBounds i2 true) a3 w) (hi0:ops[i0]? =some o0:=by rfl) (hS:S w:=by first | exact hHeld | exact trivial) (hy0:∀w,S w->(execOp a.eval o0).run P w=.ok (.value v0) w:=by intro w hSw;(try dsimp only at hSw);go_split_ands;go_simp;(try with_reducible rfl)) (e0:a.put o0.dst v0=a1:=by (try (conv=>lhs;simp only[Act.put,xz]));(first | done | rfl)) (hf0:Region.free md ops (listed) i0=true:=by kernel_rfl) (hr0:(Region.ready md ops (listed)).contains i0=true:=by kernel_rfl) (hQ0:∀c a w,Q (.panic c) (a.put o0.dst v0) w->Q (.panic c) a w:=by exact λ _ _ _ h=>h) (hg0:Region.wanted o0 (yielded ops a.tmps)=true:=by kernel_rfl) (hi1:ops[i1]? =some o1:=by rfl) (hy1:∀w,S w->(execOp a1.eval o1).run P w=.ok (.value v1) w:=by intro w hSw;(try dsimp only at hSw);go_split_ands;go_simp;(try with_reducible rfl)) (e1:a1.put o1.dst v1=a2:=by (try (conv=>lhs;simp only[Act.put,xz]));(first | done | rfl)) (hf1:Region.free md ops (listed.setIfInBounds i0 true) i1=true:=by kernel_rfl) (hr1:(Region.ready md ops (listed.setIfInBounds i0 true)).contains i1=true:=by kernel_rfl) (hQ1:∀c a w,Q (.panic c) (a.put o1.dst v1) w->Q (.panic c) a w:=by exact λ _ _ _ h=>h) (hg1:Region.wanted o1 (yielded ops a1.tmps)=true:=by kernel_rfl) (hi2:ops[i2]? =some o2:=by rfl) (hy2:∀w,S w->(execOp a2.eval o2).run P w=.ok (.value v2) w:=by intro w hSw;(try dsimp only at hSw);go_split_ands;go_simp;(try with_reducible rfl)) (e2:a2.put o2.dst v2=a3:=by (try (conv=>lhs;simp only[Act.put,xz]));(first | done | rfl)) (hf2:Region.free md ops ((listed.setIfInBounds i0 true).setIfInBounds i1 true) i2=true:=by kernel_rfl) (hr2:(Region.ready md ops ((listed.setIfInBounds i0 true).setIfInBounds i1 true)).contains i2=true:=by kernel_rfl) (hQ2:∀c a w,Q (.panic c) (a.put o2.dst v2) w->Q (.panic c) a w:=by exact λ _ _ _ h=>h) (hg2:Region.wanted o2 (yielded ops a2.tmps)=true:=by kernel_rfl) (hs:Region.noSelect ops=true:=by kernel_rfl):wpAnyH P md ops Q S (fuel+3) listed a w:=by
 subst e2 e1 e0;refine qb2 hi0 hs hf0 hr0 hQ0 (.inl ⟨hg0,hy0⟩) hS ?_;refine qb2 hi1 hs hf1 hr1 hQ1 (.inl ⟨hg1,hy1⟩) hS ?_;refine qb2 hi2 hs hf2 hr2 hQ2 (.inl ⟨hg2,hy2⟩) hS ?_;exact h
theorem tk4 {P:Program} {ops:Array Oper} {Q:Exit->Act->World->Prop} {md:Region.Mode} {S:World->Prop} {fuel:Nat} {listed:Array Bool} {a:Act} {w:World} {o0 o1 o2 o3:Oper} {v0 v1 v2 v3:Value} {a1 a2 a3 a4:Act} (i0 i1 i2 i3:Nat) (h:wpAnyH P md ops Q S fuel ((((listed.setIfInBounds i0 true).setIfInBounds i1 true).setIfInBounds i2 true).setIfInBounds i3 true) a4 w) (hi0:ops[i0]? =some o0:=by rfl) (hS:S w:=by first | exact hHeld | exact trivial) (hy0:∀w,S w->(execOp a.eval o0).run P w=.ok (.value v0) w:=by intro w hSw;(try dsimp only at hSw);go_split_ands;go_simp;(try with_reducible rfl)) (e0:a.put o0.dst v0=a1:=by (try (conv=>lhs;simp only[Act.put,xz]));(first | done | rfl)) (hf0:Region.free md ops (listed) i0=true:=by kernel_rfl) (hr0:(Region.ready md ops (listed)).contains i0=true:=by kernel_rfl) (hQ0:∀c a w,Q (.panic c) (a.put o0.dst v0) w->Q (.panic c) a w:=by exact λ _ _ _ h=>h) (hg0:Region.wanted o0 (yielded ops a.tmps)=true:=by kernel_rfl) (hi1:ops[i1]? =some o1:=by rfl) (hy1:∀w,S w->(execOp a1.eval o1).run P w=.ok (.value v1) w:=by intro w hSw;(try dsimp only at hSw);go_split_ands;go_simp;(try with_reducible rfl)) (e1:a1.put o1.dst v1=a2:=by (try (conv=>lhs;simp only[Act.put,xz]));(first | done | rfl)) (hf1:Region.free md ops (listed.setIfInBounds i0 true) i1=true:=by kernel_rfl) (hr1:(Region.ready md ops (listed.setIfInBounds i0 true)).contains i1=true:=by kernel_rfl) (hQ1:∀c a w,Q (.panic c) (a.put o1.dst v1) w->Q (.panic c) a w:=by exact λ _ _ _ h=>h) (hg1:Region.wanted o1 (yielded ops a1.tmps)=true:=by kernel_rfl) (hi2:ops[i2]? =some o2:=by rfl) (hy2:∀w,S w->(execOp a2.eval o2).run P w=.ok (.value v2) w:=by intro w hSw;(try dsimp only at hSw);go_split_ands;go_simp;(try with_reducible rfl)) (e2:a2.put o2.dst v2=a3:=by (try (conv=>lhs;simp only[Act.put,xz]));(first | done | rfl)) (hf2:Region.free md ops ((listed.setIfInBounds i0 true).setIfInBounds i1 true) i2=true:=by kernel_rfl) (hr2:(Region.ready md ops ((listed.setIfInBounds i0 true).setIfInBounds i1 true)).contains i2=true:=by kernel_rfl) (hQ2:∀c a w,Q (.panic c) (a.put o2.dst v2) w->Q (.panic c) a w:=by exact λ _ _ _ h=>h) (hg2:Region.wanted o2 (yielded ops a2.tmps)=true:=by kernel_rfl) (hi3:ops[i3]? =some o3:=by rfl) (hy3:∀w,S w->(execOp a3.eval o3).run P w=.ok (.value v3) w:=by intro w hSw;(try dsimp only at hSw);go_split_ands;go_simp;(try with_reducible rfl)) (e3:a3.put o3.dst v3=a4:=by (try (conv=>lhs;simp only[Act.put,xz]));(first | done | rfl)) (hf3:Region.free md ops (((listed.setIfInBounds i0 true).setIfInBounds i1 true).setIfInBounds i2 true) i3=true:=by kernel_rfl) (hr3:(Region.ready md ops (((listed.setIfInBounds i0 true).setIfInBounds i1 true).setIfInBounds i2 true)).contains i3=true:=by kernel_rfl) (hQ3:∀c a w,Q (.panic c) (a.put o3.dst v3) w->Q (.panic c) a w:=by exact λ _ _ _ h=>h) (hg3:Region.wanted o3 (yielded ops a3.tmps)=true:=by kernel_rfl) (hs:Region.noSelect ops=true:=by kernel_rfl):wpAnyH P md ops Q S (fuel+4) listed a w:=by
 subst e3 e2 e1 e0;refine qb2 hi0 hs hf0 hr0 hQ0 (.inl ⟨hg0,hy0⟩) hS ?_;refine qb2 hi1 hs hf1 hr1 hQ1 (.inl ⟨hg1,hy1⟩) hS ?_;refine qb2 hi2 hs hf2 hr2 hQ2 (.inl ⟨hg2,hy2⟩) hS ?_;refine qb2 hi3 hs hf3 hr3 hQ3 (.inl ⟨hg3,hy3⟩) hS ?_;exact h
theorem tk5 {P:Program} {ops:Array Oper} {Q:Exit->Act->World->Prop} {md:Region.Mode} {S:World->Prop} {fuel:Nat} {listed:Array Bool} {a:Act} {w:World} {o0 o1 o2 o3 o4:Oper} {v0 v1 v2 v3 v4:Value} {a1 a2 a3 a4 a5:Act} (i0 i1 i2 i3 i4:Nat) (h:wpAnyH P md ops Q S fuel (((((listed.setIfInBounds i0 true).setIfInBounds i1 true).setIfInBounds i2 true).setIfInBounds i3 true).setIfInBounds i4 true) a5 w) (hi0:ops[i0]? =some o0:=by rfl) (hS:S w:=by first | exact hHeld | exact trivial) (hy0:∀w,S w->(execOp a.eval o0).run P w=.ok (.value v0) w:=by intro w hSw;(try dsimp only at hSw);go_split_ands;go_simp;(try with_reducible rfl)) (e0:a.put o0.dst v0=a1:=by (try (conv=>lhs;simp only[Act.put,xz]));(first | done | rfl)) (hf0:Region.free md ops (listed) i0=true:=by kernel_rfl) (hr0:(Region.ready md ops (listed)).contains i0=true:=by kernel_rfl) (hQ0:∀c a w,Q (.panic c) (a.put o0.dst v0) w->Q (.panic c) a w:=by exact λ _ _ _ h=>h) (hg0:Region.wanted o0 (yielded ops a.tmps)=true:=by kernel_rfl) (hi1:ops[i1]? =some o1:=by rfl) (hy1:∀w,S w->(execOp a1.eval o1).run P w=.ok (.value v1) w:=by intro w hSw;(try dsimp only at hSw);go_split_ands;go_simp;(try with_reducible rfl)) (e1:a1.put o1.dst v1=a2:=by (try (conv=>lhs;simp only[Act.put,xz]));(first | done | rfl)) (hf1:Region.free md ops (listed.setIfInBounds i0 true) i1=true:=by kernel_rfl) (hr1:(Region.ready md ops (listed.setIfInBounds i0 true)).contains i1=true:=by kernel_rfl) (hQ1:∀c a w,Q (.panic c) (a.put o1.dst v1) w->Q (.panic c) a w:=by exact λ _ _ _ h=>h) (hg1:Region.wanted o1 (yielded ops a1.tmps)=true:=by kernel_rfl) (hi2:ops[i2]? =some o2:=by rfl) (hy2:∀w,S w->(execOp a2.eval o2).run P w=.ok (.value v2) w:=by intro w hSw;(try dsimp only at hSw);go_split_ands;go_simp;(try with_reducible rfl)) (e2:a2.put o2.dst v2=a3:=by (try (conv=>lhs;simp only[Act.put,xz]));(first | done | rfl)) (hf2:Region.free md ops ((listed.setIfInBounds i0 true).setIfInBounds i1 true) i2=true:=by kernel_rfl) (hr2:(Region.ready md ops ((listed.setIfInBounds i0 true).setIfInBounds i1 true)).contains i2=true:=by kernel_rfl) (hQ2:∀c a w,Q (.panic c) (a.put o2.dst v2) w->Q (.panic c) a w:=by exact λ _ _ _ h=>h) (hg2:Region.wanted o2 (yielded ops a2.tmps)=true:=by kernel_rfl) (hi3:ops[i3]? =some o3:=by rfl) (hy3:∀w,S w->(execOp a3.eval o3).run P w=.ok (.value v3) w:=by intro w hSw;(try dsimp only at hSw);go_split_ands;go_simp;(try with_reducible rfl)) (e3:a3.put o3.dst v3=a4:=by (try (conv=>lhs;simp only[Act.put,xz]));(first | done | rfl)) (hf3:Region.free md ops (((listed.setIfInBounds i0 true).setIfInBounds i1 true).setIfInBounds i2 true) i3=true:=by kernel_rfl) (hr3:(Region.ready md ops (((listed.setIfInBounds i0 true).setIfInBounds i1 true).setIfInBounds i2 true)).contains i3=true:=by kernel_rfl) (hQ3:∀c a w,Q (.panic c) (a.put o3.dst v3) w->Q (.panic c) a w:=by exact λ _ _ _ h=>h) (hg3:Region.wanted o3 (yielded ops a3.tmps)=true:=by kernel_rfl) (hi4:ops[i4]? =some o4:=by rfl) (hy4:∀w,S w->(execOp a4.eval o4).run P w=.ok (.value v4) w:=by intro w hSw;(try dsimp only at hSw);go_split_ands;go_simp;(try with_reducible rfl)) (e4:a4.put o4.dst v4=a5:=by (try (conv=>lhs;simp only[Act.put,xz]));(first | done | rfl)) (hf4:Region.free md ops ((((listed.setIfInBounds i0 true).setIfInBounds i1 true).setIfInBounds i2 true).setIfInBounds i3 true) i4=true:=by kernel_rfl) (hr4:(Region.ready md ops ((((listed.setIfInBounds i0 true).setIfInBounds i1 true).setIfInBounds i2 true).setIfInBounds i3 true)).contains i4=true:=by kernel_rfl) (hQ4:∀c a w,Q (.panic c) (a.put o4.dst v4) w->Q (.panic c) a w:=by exact λ _ _ _ h=>h) (hg4:Region.wanted o4 (yielded ops a4.tmps)=true:=by kernel_rfl) (hs:Region.noSelect ops=true:=by kernel_rfl):wpAnyH P md ops Q S (fuel+5) listed a w:=by
 subst e4 e3 e2 e1 e0;refine qb2 hi0 hs hf0 hr0 hQ0 (.inl ⟨hg0,hy0⟩) hS ?_;refine qb2 hi1 hs hf1 hr1 hQ1 (.inl ⟨hg1,hy1⟩) hS ?_;refine qb2 hi2 hs hf2 hr2 hQ2 (.inl ⟨hg2,hy2⟩) hS ?_;refine qb2 hi3 hs hf3 hr3 hQ3 (.inl ⟨hg3,hy3⟩) hS ?_;refine qb2 hi4 hs hf4 hr4 hQ4 (.inl ⟨hg4,hy4⟩) hS ?_;exact h
theorem apA {P:Program} {w:World} {ops:Array Oper} {rest:List Oper} {o:Oper} {a:Act} {Q:Exit->Act->World->Prop} {base:Nat} {s x:Operand} {t e:TypeId} {i:TypeInfo} {z v:Value} {size bytes n m c:Nat} {xs:List Value} {ad:Addr} (hown:w.ownsRow base e size v n xs) (news:List Value) (h:∀v' w',w'.ownsRow base e size v' (n+m) (xs++news)->w.grownBy w' v.ownBlock->(v'=.slice none 0 0↔v=.slice none 0 0/\m=0)->(v'.ownBlock=v.ownBlock\/v'.ownBlock=some w.heap.size)->wpList P ops Q rest (a.put o.dst v') w') (hgd:o.guard=none:=by rfl) (ho:o.op=.call { callee:=.builtin .append,args:=#[s,x],argTypes:=#[t,t] }:=by rfl) (ht:P.underlying t=some (.slice e):=by kernel_rfl) (hi:P.info? e=some i:=by assumption) (hz:i.zero=some z:=by assumption) (hsize:i.size=size:=by assumption) (hby:i.bytes=bytes:=by assumption) (hzs:z.cells.size=size:=by rfl) (hsz:0<size:=by decide) (hs:a.eval s=v:=by first | rfl | simp[Act.eval]) (hx:a.eval x=.slice (some ad) m c:=by first | rfl | simp[Act.eval]) (hl:news.length=m*size:=by rfl) (hnews:∀j u,news[j]? =some u->w.cell? (ad.add j)=some u:=by first | exact (cell_one_new _ _ _) | (intro j u hu;rw[zae];exact (Bk.at rfl).cell j |>.trans (by simpa using hu))) (h1:∀u∈news,u.oneCell'=true:=by repeat' (first | exact List.forall_mem_nil _ | refine List.forall_mem_cons.2 ⟨rfl,?_⟩)) (h63:n+m<=maxLen:=by unfold maxLen;omega) (hbytes:(n+m)*bytes<=140737488355328:=by omega) (hbase:base<=w.heap.size:=by first | omega | assumption | exact qbi _ | (simp;done) | (simp;omega)):wpList P ops Q (o ::rest) a w:=wpList_append_own_at _ hgd s x t ho base e i z size bytes ht hi hz hsize hby hzs hsz v n xs hs hown ad m c news hx hl hnews h1 h63 hbytes hbase h
theorem apL {P:Program} {w:World} {ops:Array Oper} {o:Oper} {a:Act} {K:Act->World->Prop} {Q:Exit->Act->World->Prop} {E:Prop} {base:Nat} {s x:Operand} {t e:TypeId} {i:TypeInfo} {z v:Value} {size bytes n m c:Nat} {xs:List Value} {ad:Addr} (hown:w.ownsRow base e size v n xs) (news:List Value) (h:∀g cap w',w'.ownsRow base e size (.slice (some ⟨g,0,none⟩) (n+m) cap) (n+m) (xs++news)->w.grownBy w' v.ownBlock->(v.ownBlock=some g\/g=w.heap.size)->g<w'.heap.size->K (a.put o.dst (.slice (some ⟨g,0,none⟩) (n+m) cap)) w') (hgd:o.guard=none:=by rfl) (ho:o.op=.call { callee:=.builtin .append,args:=#[s,x],argTypes:=#[t,t] }:=by rfl) (ht:P.underlying t=some (.slice e):=by kernel_rfl) (hi:P.info? e=some i:=by assumption) (hz:i.zero=some z:=by assumption) (hsize:i.size=size:=by assumption) (hby:i.bytes=bytes:=by assumption) (hzs:z.cells.size=size:=by rfl) (hsz:0<size:=by decide) (hs:a.eval s=v:=by first | rfl | simp[Act.eval]) (hx:a.eval x=.slice (some ad) m c:=by first | rfl | simp[Act.eval]) (hl:news.length=m*size:=by rfl) (hnews:∀j u,news[j]? =some u->w.cell? (ad.add j)=some u:=by first | exact (cell_one_new _ _ _) | (intro j u hu;rw[zae];exact (Bk.at rfl).cell j |>.trans (by simpa using hu))) (h1:∀u∈news,u.oneCell'=true:=by repeat' (first | exact List.forall_mem_nil _ | refine List.forall_mem_cons.2 ⟨rfl,?_⟩)) (hm:0<m:=by omega) (h63:n+m<=maxLen:=by unfold maxLen;omega) (hbytes:(n+m)*bytes<=140737488355328:=by omega) (hbase:base<=w.heap.size:=by first | omega | assumption | exact qbi _ | (simp;done) | (simp;omega)):if Region.wanted o (yielded ops a.tmps)=true then Oper.wp P o a w K Q else E:=step_append_lies _ hgd s x t ho base e i z size bytes ht hi hz hsize hby hzs hsz v n xs hs hown ad m c news hx hl hnews h1 hm h63 hbytes hbase _ rfl h
structure Keeps (S:Nat->Prop) (w w':World):Prop where
 os:w'.os=w.os
 tape:w'.tape=w.tape
 output:w'.output=w.output
 size:w.heap.size<=w'.heap.size
 block:∀k,k<w.heap.size->¬ S k->w'.heap[k]? =w.heap[k]?
theorem Keeps.refl (S:Nat->Prop) (w:World):Keeps S w w:=⟨rfl,rfl,rfl,qaj _,λ _ _ _=>rfl⟩
theorem Keeps.trans {S S':Nat->Prop} {a b c:World} (h:Keeps S a b) (k:Keeps S' b c) (hs:∀i,i<a.heap.size->S' i->S i):Keeps S a c:=
 ⟨k.os.trans h.os,k.tape.trans h.tape,k.output.trans h.output,qam h.size k.size,
  λ i hi hn=>(k.block i (qaA hi h.size) λ q=>hn (hs i hi q)).trans (h.block i hi hn)⟩
theorem Keeps.mono {S S':Nat->Prop} {a b:World} (h:Keeps S a b) (hs:∀i,i<a.heap.size->S i->S' i):Keeps S' a b:=
 ⟨h.os,h.tape,h.output,h.size,λ i hi hn=>h.block i hi λ q=>hn (hs i hi q)⟩
theorem Keeps.grown {a b:World} {row:Option Nat} (h:a.grownBy b row):Keeps (λ k=>row=some k) a b:=
 ⟨h.os,h.tape,h.output,h.size,λ i hi hn=>h.block i hi λ e=>hn e.symm⟩
theorem Keeps.alloc {S:Nat->Prop} {a b:World} (h:Keeps S a b) (o:Obj):Keeps S a (b.alloc o):=
 ⟨h.os,h.tape,h.output,by have:=h.size;simp;omega,λ i hi hn=>(Below.heap_alloc _ _ _ (qaA hi h.size)).trans (h.block i hi hn)⟩
theorem Keeps.drewN {S:Nat->Prop} {a b:World} (h:Keeps S a b) (n:Nat):Keeps S a (b.drewN n):=⟨h.os,h.tape,h.output,h.size,h.block⟩
theorem Keeps.drew {S:Nat->Prop} {a b:World} (h:Keeps S a b):Keeps S a b.drew:=⟨h.os,h.tape,h.output,h.size,h.block⟩
theorem Keeps.setCell {S:Nat->Prop} {a b:World} (h:Keeps S a b) {p:Addr} (hp:S p.block\/a.heap.size<=p.block) (u:Value):Keeps S a (b.setCell p u):=
 ⟨h.os,h.tape,h.output,by simpa using h.size,λ i hi hn=>(qcv _ _ _ _ (λ e=>by subst e;rcases hp with hp | hp;exact hn hp;omega)).trans (h.block i hi hn)⟩
theorem Keeps.below {S:Nat->Prop} {a b:World} (h:Keeps S a b) {B:Nat} (hB:B<=a.heap.size) (hs:∀k,k<B->¬ S k):Below B a b:=
 ⟨h.os,h.tape,h.output,h.size,λ k hk=>h.block k (by omega) (hs k hk)⟩
theorem Keeps.of_below {B:Nat} {a b:World} (h:Below B a b):Keeps (λ k=>B<=k) a b:=
 ⟨h.os,h.tape,h.output,h.size,λ k _ hn=>h.block k (by omega)⟩
theorem Keeps.cell {S:Nat->Prop} {a b:World} (h:Keeps S a b) {p:Addr} (hp:p.block<a.heap.size) (hn:¬ S p.block):b.cell? p=a.cell? p:=
 World.cell?_of_block (w:=a) (h.block p.block hp hn)
theorem Keeps.frozen {S:Nat->Prop} {a b:World} (h:Keeps S a b) {p:Addr} (hp:p.block<a.heap.size) (hn:¬ S p.block):b.frozen? p=a.frozen? p:=
 World.frozen?_of_block (w:=a) (h.block p.block hp hn)
def Ext (w w':World):Prop:=Below w.heap.size w w'
theorem Ext.refl (w:World):Ext w w:=qco _ _
theorem Ext.trans {a b c:World} (h:Ext a b) (k:Ext b c):Ext a c:=Below.trans h (Below.mono k h.size)
theorem Ext.alloc {a b:World} (h:Ext a b) (o:Obj):Ext a (b.alloc o):=Below.alloc h h.size o
theorem Ext.drewN {a b:World} (h:Ext a b) (n:Nat):Ext a (b.drewN n):=below_drewN h n
theorem Ext.keeps {S:Nat->Prop} {a b:World} (h:Ext a b):Keeps S a b:=(Keeps.of_below h).mono λ i hi q=>by have:a.heap.size<=i:=q;omega
theorem zbA {k:IntKind} {a b:Int} (h:a=b):Ending.returned (.int k a)=.returned (.int k b):=by rw[h]
theorem zaG {a b:Bool} (h:a=b):Ending.returned (.bool a)=.returned (.bool b):=by rw[h]
theorem zbg {k:IntKind} {a b:Int} (h:a=b):Value.int k a=Value.int k b:=by rw[h]
theorem zaa {S:Nat->Prop} {w w':World} {base:Nat} {e:TypeId} {size:Nat} {v:Value} {n:Nat} {xs:List Value}
  (h:w.ownsRow base e size v n xs) (hk:Keeps S w w') (hn:∀k,v.ownBlock=some k->¬ S k):w'.ownsRow base e size v n xs:=by
 obtain⟨h1,h2⟩:=h;refine⟨h1,?_⟩;rcases h2 with h2 | ⟨g,cap,cur,hv,hg,hh,r⟩
 ·exact Or.inl h2
 subst hv;have hlt:g<w.heap.size:=qbK hh;exact Or.inr ⟨g,cap,cur,rfl,hg,by rw[hk.block g hlt (hn g rfl)];exact hh,r⟩
theorem zaA {w:World} {base:Nat} {e:TypeId} {size:Nat} {v:Value} {n:Nat} {xs:List Value}
  (h:w.ownsRow base e size v n xs) {k:Nat} (hk:v.ownBlock=some k):k<w.heap.size:=(h.lt k hk).2
theorem zaw {w:World} {base:Nat} {e:TypeId} {size:Nat} {v:Value} {n:Nat} {xs:List Value}
  (h:w.ownsRow base e size v n xs) (hn:0<n):∃g cap,v=.slice (some ⟨g,0,none⟩) n cap/\n<=cap/\g<w.heap.size:=by
 rcases h.2 with⟨_,h0⟩ | ⟨g,cap,cur,hv,_,hh,hc,_⟩
 ·omega
 exact⟨g,cap,hv,hc,qbK hh⟩
theorem zah {w:World} {base:Nat} {e:TypeId} {size:Nat} {v:Value} {n:Nat} {xs:List Value}
  (h:w.ownsRow base e size v n xs):(v=.slice none 0 0/\n=0)\/∃g cap,v=.slice (some ⟨g,0,none⟩) n cap:=by
 rcases h.2 with h0 | ⟨g,cap,cur,hv,_⟩
 ·exact .inl h0
 exact .inr ⟨g,cap,hv⟩
theorem zae (b j:Nat):(⟨b,0,none⟩:Addr).add j=⟨b,j,none⟩:=by unfold Addr.add;split <;> simp_all
theorem zac {P:Program} {c:Code} {Q:Exit->Act->World->Prop} {a:Act} {W:World} (F:World->Prop) (h1:F W) (h2:∀wz,F wz->Code.wp P c Q a wz):Code.wp P c Q a W:=h2 W h1
theorem zaM {P:Program} {f:Nat} {args:Array Value} {W:World} {Q:Ending->World->Prop} (F:World->Prop) (h1:F W) (h2:∀wz,F wz->Calls P f args wz Q):Calls P f args W Q:=h2 W h1
def Bk (w:World) (b:Nat) (cs:Array Value):Prop:=∃t,w.heap[b]? =some (.cells cs t (0,0))
theorem Bk.lt {w:World} {b:Nat} {cs:Array Value} (h:Bk w b cs):b<w.heap.size:=by obtain⟨t,h⟩:=h;exact qbK h
theorem Bk.at {w:World} {k:Nat} {cs:Array Value} {t:TypeId} (h:w.heap.size=k):Bk (w.alloc (.cells cs t)) k cs:=⟨t,by rw[<- h];exact qbP w _⟩
theorem Bk.old {w:World} {b:Nat} {cs:Array Value} {o:Obj} (h:Bk w b cs):Bk (w.alloc o) b cs:=by
  have hl:=h.lt;obtain⟨t,h⟩:=h;exact⟨t,(Below.heap_alloc w o b hl).trans h⟩
theorem Bk.keeps {S:Nat->Prop} {w w':World} {b:Nat} {cs:Array Value} (h:Bk w b cs) (hk:Keeps S w w') (hS:¬ S b):Bk w' b cs:=by
  have hl:=h.lt;obtain⟨t,h⟩:=h;exact⟨t,(hk.block b hl hS).trans h⟩
theorem Bk.ext {w w':World} {b:Nat} {cs:Array Value} (h:Bk w b cs) (hE:Ext w w'):Bk w' b cs:=h.keeps (S:=λ _=>False) hE.keeps id
theorem Bk.cell {w:World} {b:Nat} {cs:Array Value} (h:Bk w b cs) (i:Nat):w.cell? ⟨b,i,none⟩=cs[i]?:=by
  obtain⟨t,h⟩:=h;exact cell_of_row w b i cs t (0,0) h
theorem Bk.frozen {w:World} {b:Nat} {cs:Array Value} (h:Bk w b cs) (i:Nat):w.frozen? ⟨b,i,none⟩=false:=by
  obtain⟨t,h⟩:=h;simp[World.frozen?,h]
theorem Bk.set_ {w:World} {b:Nat} {cs:Array Value} (h:Bk w b cs) (i:Nat) (u:Value):Bk (w.setCell ⟨b,i,none⟩ u) b (cs.setIfInBounds i u):=by
  obtain⟨t,h⟩:=h;exact⟨t,by simp[World.setCell,qbk,h]⟩
theorem Bk.far {w:World} {b:Nat} {cs:Array Value} (h:Bk w b cs) {p:Addr} (hp:b≠p.block) (u:Value):Bk (w.setCell p u) b cs:=by
  obtain⟨t,h⟩:=h;exact⟨t,(qcv w p u b hp).trans h⟩
theorem Bk.drewN {w:World} {b:Nat} {cs:Array Value} (h:Bk w b cs) (n:Nat):Bk (w.drewN n) b cs:=h
theorem Bk.drew {w:World} {b:Nat} {cs:Array Value} (h:Bk w b cs):Bk w.drew b cs:=h
def kI (p:Int):Value:=.int .i64 p
theorem zhI {p q:Int} (h:(kI p)=kI q):p=q:=by
 unfold kI at h;injection h
theorem zbQ:Maps.Keyed Tryz.prog 3 :=Maps.int_keyed Tryz.underlying3
def OkI (p:Int):Prop:= -9223372036854775808<=p/\p<=9223372036854775807
theorem zmZ {P:Program} {K:TypeId} (uK:P.underlying K=some (.int .i64)) (p:Int) (h:OkI p):∃l,keyOf P K (kI p)=some l:=by
 have h1:(Lit.int .i64 p).wf=true:=WalkArith.wf_i64 h;refine⟨.int .i64 p,?_⟩;unfold keyOf kI;simp[uK,mapKey,h1]
theorem zcJ (p:Int) (h:OkI p):∃l,keyOf Tryz.prog 3 (kI p)=some l:=
 zmZ Tryz.underlying3 p h
def MI (w:World) (b:Nat) (g:Int->Option Nat):Prop:=
 ∃es clock,w.heap[b]? =some (.map es clock)/\(∀e∈es.toList,∃p n,e.key=(kI p)/\OkI p/\e.val=.int .i64 ((n:Nat):Int)/\g p=some n)/\(∀p n,OkI p->g p=some n->∃e∈es.toList,e.key=(kI p))/\(∀(i j:Nat) (d e:MapEntry),es[i]? =some d->es[j]? =some e->d.key=e.key->i=j)
theorem MI.lt {w:World} {b:Nat} {g:Int->Option Nat} (h:MI w b g):b<w.heap.size:=by
 obtain⟨es,clock,hb,_⟩:=h;exact qbK hb
theorem MI.keeps {S:Nat->Prop} {w w':World} {b:Nat} {g:Int->Option Nat} (h:MI w b g) (hk:Keeps S w w') (hS:¬ S b):MI w' b g:=by
 have hl:=h.lt;obtain⟨es,clock,hb,r⟩:=h;exact⟨es,clock,(hk.block b hl hS).trans hb,r⟩
theorem MI.ext {w w':World} {b:Nat} {g:Int->Option Nat} (h:MI w b g) (hE:Ext w w'):MI w' b g:=h.keeps (S:=λ _=>False) hE.keeps id
theorem MI.new (w:World) (g:Int->Option Nat) (hg:∀p,g p=none):MI (w.alloc (.map #[] 0)) w.heap.size g:=
 ⟨#[],0,qbP w _,(by simp),(λ p n _ h=>by rw[hg] at h;cases h),(λ i j d e h=>by simp at h)⟩
theorem MI.look {w:World} {b:Nat} {p:Int} {g:Int->Option Nat} (h:MI w b g) (hp:OkI p):
  (Instr.lookup 75 (.map (some b)) (kI p) true).run Tryz.prog w=.ok (.tuple #[.int .i64 (((g p).getD 0:Nat):Int),.bool (g p).isSome]) w:=by
 obtain⟨es,clock,hb,h1,h2,h3⟩:=h;obtain⟨l,hl⟩:=zcJ p hp;have hzv:(zeroValue 3).run Tryz.prog w=.ok (.int .i64 0) w:=by kernel_rfl
 have hes:∀e∈es.toList,∃l,keyOf Tryz.prog 3 e.key=some l:=by
  intro e he;obtain⟨q,n,hk',q1,_⟩:=h1 e he;rw[hk'];exact zcJ q q1
 have hcheck:=zbQ.check w es.isEmpty hl;rcases zbQ.find w hl es.toList hes with⟨hf,hno⟩ | ⟨j,e,hf,hj,he⟩
 ·have hg:g p=none:=by
   cases hq:g p with
   | none=>rfl
   | some n=>obtain⟨e,hm,hk2⟩:=h2 p n hp hq;exact absurd hk2 (hno e hm)
  rw[hg];simp[Instr.lookup,qbO Tryz.underlying75,qbG hb,hcheck,hf,hzv,Result.andThen]
 obtain⟨q,n,hk',_,hv,hg⟩:=h1 e (qa5 hj);obtain rfl:=zhI (hk'.symm.trans he);rw[hg];simp[Instr.lookup,qbO Tryz.underlying75,qbG hb,hcheck,hf,hv,Result.andThen]
def updI (g:Int->Option Nat) (p:Int) (n:Nat):Int->Option Nat:=λ q=>if q=p then some n else g q
theorem MI.store {w:World} {b n:Nat} {p:Int} {g:Int->Option Nat} (h:MI w b g) (hp:OkI p):
  ∃w',(Instr.mapUpdate 75 (.map (some b)) (kI p) (.int .i64 (n:Int))).run Tryz.prog w=.ok () w'/\MI w' b (updI g p n)/\Keeps (λ i=>i=b) w w':=by
 have hlt:=h.lt;obtain⟨es,clock,hb,h1,h2,h3⟩:=h;obtain⟨l,hl⟩:=zcJ p hp;have hes:∀e∈es.toList,∃l,keyOf Tryz.prog 3 e.key=some l:=by
  intro e he;obtain⟨q,n,hk',q1,_⟩:=h1 e he;rw[hk'];exact zcJ q q1
 have hcheck:=zbQ.check w false hl;have hstay:=zbQ.stays w hl;have hset:∀o:Obj,(w.heap.setIfInBounds b o)[b]? =some o:=by
  intro o;rw[Array.getElem?_setIfInBounds];simp[hlt]
 have hkeep:∀o:Obj,Keeps (λ i=>i=b) w (ChangeMaps.setBlock w b o):=λ o=>⟨rfl,rfl,rfl,by simp[ChangeMaps.setBlock],λ i hi hn=>by
  show (w.heap.setIfInBounds b _)[i]? =_;rw[Array.getElem?_setIfInBounds,qac (λ e=>hn e.symm)]⟩
 rcases zbQ.find w hl es.toList hes with⟨hf,hno⟩ | ⟨j,e0,hf,hj,he0⟩
 ·refine⟨ChangeMaps.setBlock w b (.map (es.push { key:=(kI p),val:=.int .i64 (n:Int),born:=clock }) (clock+1)),?_,⟨_,_,hset _,?_,?_,?_⟩,hkeep _⟩
  ·simp[Instr.mapUpdate,qbO Tryz.underlying75,qbG hb,hcheck,hf,MapKept.run_setObj_map _ hb,Result.andThen,ChangeMaps.setBlock]
  ·intro e he;rw[Array.toList_push,qa3,qaN] at he;rcases he with he | rfl
   ·obtain⟨q,n',q1,q2,q5,q6⟩:=h1 e he;refine⟨q,n',q1,q2,q5,?_⟩;unfold updI;rw[qac]
    ·exact q6
    rintro rfl;exact hno e he q1
   exact⟨p,n,rfl,hp,rfl,qad rfl⟩
  ·intro q n' bq hq;unfold updI at hq;rw[Array.toList_push];by_cases hkc:q=p
   ·obtain rfl:=hkc;exact⟨_,List.mem_append_right _ (qaN.2 rfl),rfl⟩
   rw[qac hkc] at hq;obtain⟨e,hm,hk2⟩:=h2 q n' bq hq;exact⟨e,qcl _ hm,hk2⟩
  intro i j d e hi hj he;rw[Array.getElem?_push] at hi hj;have no:∀(i:Nat) (d:MapEntry),es[i]? =some d->d.key≠(kI p):=λ i d hi=>hno d (by rw[qbU,qbH];exact⟨i,hi⟩);split at hi <;> split at hj
  ·omega
  ·injection hi with hi;subst hi;exact absurd he.symm (no j e hj)
  ·injection hj with hj;subst hj;exact absurd he (no i d hi)
  exact h3 i j d e hi hj he
 have hje:es[j]? =some e0:=by rw[<- Array.getElem?_toList];exact hj
 refine⟨ChangeMaps.setBlock w b (.map (es.modify j λ e=> { e with key:=(kI p),val:=.int .i64 (n:Int) }) clock),?_,⟨_,_,hset _,?_,?_,?_⟩,hkeep _⟩
 ·have hg0:((es[j]?).map (·.key)).getD (kI p)=(kI p):=by rw[hje];exact he0
  simp[Instr.mapUpdate,qbO Tryz.underlying75,qbG hb,hcheck,hf,hje,he0,hstay,MapKept.run_setObj_map _ hb,Result.andThen,ChangeMaps.setBlock]
 ·intro e he;rw[qbU,qbH] at he;obtain⟨i,hi⟩:=he;rw[qbk] at hi;split at hi
  ·rename_i hji;subst hji;rw[hje] at hi;simp at hi;subst hi;exact⟨p,n,rfl,hp,rfl,qad rfl⟩
  have hm:e∈es.toList:=by rw[qbU,qbH];exact⟨i,hi⟩
  obtain⟨q,n',q1,q2,q5,q6⟩:=h1 e hm;by_cases hkc:q=p
  ·obtain rfl:=hkc;exact absurd (h3 j i e0 e hje hi (he0.trans q1.symm)) (by assumption)
  exact⟨q,n',q1,q2,q5,(qac hkc).trans q6⟩
 ·intro q n' bq hq;unfold updI at hq;by_cases hkc:q=p
  ·obtain rfl:=hkc;exact⟨{ e0 with key:=(kI q),val:=.int .i64 (n:Int) },by rw[qbU,qbH];exact⟨j,by rw[qbk,qad rfl,hje];rfl⟩,rfl⟩
  rw[qac hkc] at hq;obtain⟨e,hm,hk2⟩:=h2 q n' bq hq;refine⟨e,?_,hk2⟩;rw[qbU,qbH] at hm⊢;obtain⟨i,hi⟩:=hm;refine⟨i,?_⟩;rw[qbk,qac]
  ·exact hi
  rintro rfl;rw[hje] at hi;injection hi with hi;subst hi;exact hkc (zhI (he0.symm.trans hk2)).symm
 intro i k d e hi hk he;have same:∀(i:Nat) (d:MapEntry),(es.modify j λ e=> { e with key:=(kI p),val:=.int .i64 (n:Int) })[i]? =some d->∃d',es[i]? =some d'/\d'.key=d.key:=by
  intro i d hi;rw[qbk] at hi;split at hi
  ·rename_i hji;subst hji;rw[hje] at hi;simp at hi;subst hi;exact⟨e0,hje,he0⟩
  exact⟨d,hi,rfl⟩
 obtain⟨d',a1,a2⟩:=same i d hi;obtain⟨e',b1,b2⟩:=same k e hk;exact h3 i k d' e' a1 b1 (a2.trans (he.trans b2.symm))
end Go.Proofs.YthlibiocadimhaaGreatDoor
namespace Pix
def blend (mode s d:Int):Int:=
  if mode=0 then 255*s else if mode=1 then s*d else if mode=2 then 255*(s+d)-s*d
  else if mode=3 then 255*min s d else if mode=4 then 255*max s d else 255*max (s-d) (d-s)
def num (mode a b s d:Int):Int:=255*(a*(255-b)*s+b*(255-a)*d)+a*b*blend mode s d
def Byte (x:Int):Prop:=0<=x/\x<=255
end Pix
namespace Go.Proofs.YthlibiocadimhaaGreatDoor
open Go.RowKit
abbrev pixv (r g b a:Int):Value:=.agg #[.int .u8 r,.int .u8 g,.int .u8 b,.int .u8 a]
structure P4 where
  r:Int
  g:Int
  b:Int
  a:Int
def P4.val (p:P4):Value:=pixv p.r p.g p.b p.a
structure P4.Ok (p:P4):Prop where
  r:Pix.Byte p.r
  g:Pix.Byte p.g
  b:Pix.Byte p.b
  a:Pix.Byte p.a
def P4.zero:P4:=⟨0,0,0,0⟩
@[irreducible] def cellsI (k:IntKind) (n:Nat) (f:Nat->Int):Array Value:=(List.map (λ i:Nat=>Value.int k (f i)) (List.range n)).toArray
theorem zaq (k:IntKind) (n:Nat) (f:Nat->Int) (i:Nat) (h:i<n):(cellsI k n f)[i]? =some (.int k (f i)):=by
 unfold cellsI;simp[h]
@[go_sem] theorem cellsI_size (k:IntKind) (n:Nat) (f:Nat->Int):(cellsI k n f).size=n:=by unfold cellsI;simp
@[go_sem] theorem cellsI_getElem (k:IntKind) (n:Nat) (f:Nat->Int) (i:Nat) (h:i<(cellsI k n f).size):(cellsI k n f)[i]=.int k (f i):=by
 have e1:=zaq k n f i (by rw[<- cellsI_size k n f];exact h);rw[qck h] at e1;exact qb6 e1
theorem zfS (k:IntKind) (n:Nat) (f:Nat->Int) (j:Nat) (x:Int) (g:Nat->Int) (hg:∀i,i<n->g i=if i=j then x else f i):(cellsI k n f).setIfInBounds j (.int k x)=cellsI k n g:=by
 apply Array.ext
 ·simp[cellsI_size]
 intro i h1 h2;have h3:i<n:=by simpa [cellsI_size] using h2
 have e2:=zaq k n g i h3;have e1:=zaq k n f i h3;rw[qck h2] at e2;rw[qck (by rw[cellsI_size];exact h3)] at e1;rw[Option.some_inj] at e1 e2;rw[Array.getElem_setIfInBounds (by rw[cellsI_size];exact h3),e2,e1,hg i h3];by_cases hij:j=i
 ·subst hij;simp
 rw[qac hij,qac (λ e=>hij e.symm)]
theorem zeC (k:IntKind) (n:Nat):Array.replicate n (Value.int k 0)=cellsI k n (λ _=>0):=by
 unfold cellsI;apply Array.ext
 ·simp
 intro i h1 h2;simp
theorem zki (k:IntKind) (F:Nat->Int):cellsI k 16 F=#[.int k (F 0),.int k (F 1),.int k (F 2),.int k (F 3),.int k (F 4),.int k (F 5),.int k (F 6),.int k (F 7),.int k (F 8),.int k (F 9),.int k (F 10),.int k (F 11),.int k (F 12),.int k (F 13),.int k (F 14),.int k (F 15)]:=by unfold cellsI;rfl
theorem zay (k:IntKind) (n:Nat) (F:Nat->Int) (j:Nat) (v:Value) (hv:v=.int k (F j)):(cellsI k n F).setIfInBounds j v=cellsI k n F:=by
 rw[hv];exact zfS k n F j (F j) F (λ i _=>by by_cases h:i=j <;> simp[h])
def Cs (w:World) (B n:Nat) (k:IntKind) (g:Nat->Int):Prop:=∀i,i<n->w.cell? ⟨B,i,none⟩=some (.int k (g i))/\w.frozen? ⟨B,i,none⟩=false
theorem Cs.congr {w:World} {B n:Nat} {k:IntKind} {g g':Nat->Int} (h:Cs w B n k g) (hg:∀i,i<n->g' i=g i):Cs w B n k g':=by
 intro i hi;rw[hg i hi];exact h i hi
theorem Cs.put {w:World} {B n:Nat} {k:IntKind} {g:Nat->Int} (h:Cs w B n k g) (j:Nat) (x:Int) (g':Nat->Int) (hj:j<n) (hg:∀i,i<n->g' i=if i=j then x else g i):Cs (w.setCell ⟨B,j,none⟩ (.int k x)) B n k g':=by
 intro i hi;obtain⟨h1,h2⟩:=h i hi;rw[hg i hi,qap];refine⟨?_,h2⟩;by_cases e:i=j
 ·subst e;rw[qad rfl];exact qa0 _ _ _ h1
 rw[qac e];exact (qah _ _ _ _ (by intro q;injection q with _ q2;exact e q2.symm)).trans h1
theorem Cs.other {w:World} {B n:Nat} {k:IntKind} {g:Nat->Int} (h:Cs w B n k g) (p:Addr) (v:Value) (hp:p.block≠B):Cs (w.setCell p v) B n k g:=by
 intro i hi;obtain⟨h1,h2⟩:=h i hi;rw[qap];exact⟨(qah _ _ _ _ (by intro q;rw[q] at hp;exact hp rfl)).trans h1,h2⟩
theorem Cs.drew {w:World} {B n:Nat} {k:IntKind} {g:Nat->Int} (h:Cs w B n k g):Cs w.drew B n k g:=h
theorem Cs.alloc {w:World} {B n:Nat} {k:IntKind} {g:Nat->Int} (h:Cs w B n k g) (hB:B<w.heap.size) (o:Obj):Cs (w.alloc o) B n k g:=by
 intro i hi;rw[World.cell?_alloc_past _ _ _ hB,World.frozen?_alloc_past _ _ _ hB];exact h i hi
theorem Cs.born (w:World) (k:IntKind) (n:Nat) (g:Nat->Int) (t:TypeId):Cs (w.alloc (.cells (cellsI k n g) t)) w.heap.size n k g:=by
 intro i hi;rw[qaV _ _ _ _ rfl,qbE _ _ _ _ rfl];exact⟨zaq k n g i hi,rfl⟩
theorem zaY (k:IntKind) (n:Nat):madeCells #[Value.int k 0] n=cellsI k n (λ _=>0):=by
 apply Array.ext
 ·rw[size_madeCells,cellsI_size]
 intro i h1 h2;rw[cellsI_getElem];simp[madeCells,qcI]
theorem zbR {P:Program} {f:Nat} {args:Array Value} {w:World} {v:Value} (h:Calls P f args w λ e w'=>e=.returned v/\w=w'):Calls P f args w λ e w'=>e=.returned v/\w'=w:=
 h.mono λ _ _ ⟨a,b⟩=>⟨a,b.symm⟩
def Pxs (w:World) (x:Option Addr) (n:Nat) (px:Nat->P4):Prop:=
 (x=none->n=0)/\∀a,x=some a->∀i,i<n->
  w.cell? (a.add (i*4))=some (.int .u8 (px i).r)/\w.cell? ⟨(a.add (i*4)).block,(a.add (i*4)).off+1,none⟩=some (.int .u8 (px i).g)/\
  w.cell? ⟨(a.add (i*4)).block,(a.add (i*4)).off+2,none⟩=some (.int .u8 (px i).b)/\w.cell? ⟨(a.add (i*4)).block,(a.add (i*4)).off+3,none⟩=some (.int .u8 (px i).a)/\(px i).Ok
theorem zmf (a:Addr) (k:Nat):(a.add k).block=a.block:=by unfold Addr.add;split <;> rfl
theorem Pxs.keeps {S:Nat->Prop} {w w':World} {x:Option Addr} {n:Nat} {px:Nat->P4} (h:Pxs w x n px) (hk:Keeps S w w') (hS:∀a,x=some a->¬ S a.block):Pxs w' x n px:=by
 refine⟨h.1,λ a ha i hi=>?_⟩;obtain⟨c0,c1,c2,c3,ok⟩:=h.2 a ha i hi;have hs:¬ S (a.add (i*4)).block:=by rw[zmf];exact hS a ha
 have hl:(a.add (i*4)).block<w.heap.size:=qab w _ c0;exact⟨(hk.cell hl hs).trans c0,(hk.cell (p:=⟨_,_,none⟩) hl hs).trans c1,(hk.cell (p:=⟨_,_,none⟩) hl hs).trans c2,(hk.cell (p:=⟨_,_,none⟩) hl hs).trans c3,ok⟩
theorem Pxs.ext {w w':World} {x:Option Addr} {n:Nat} {px:Nat->P4} (h:Pxs w x n px) (hE:Ext w w'):Pxs w' x n px:=h.keeps (S:=λ _=>False) hE.keeps (λ _ _=>id)
theorem Pxs.congr {w:World} {x:Option Addr} {n:Nat} {px qx:Nat->P4} (h:Pxs w x n px) (hq:∀i,i<n->qx i=px i):Pxs w x n qx:=
 ⟨h.1,λ a ha i hi=>by rw[hq i hi];exact h.2 a ha i hi⟩
theorem Pxs.isSome {w:World} {x:Option Addr} {n:Nat} {px:Nat->P4} (h:Pxs w x n px) {i:Nat} (hi:i<n):∃a,x=some a:=by
 cases x with
 | none=>have:=h.1 rfl;omega
 | some a=>exact⟨a,rfl⟩
def cellP (px:Nat->P4) (j:Nat):Value:=if j%4=0 then .int .u8 (px (j/4)).r else if j%4=1 then .int .u8 (px (j/4)).g else if j%4=2 then .int .u8 (px (j/4)).b else .int .u8 (px (j/4)).a
def pxV (n:Nat) (px:Nat->P4):List Value:=(List.range (n*4)).map (cellP px)
theorem zk9 (n:Nat) (px:Nat->P4):(pxV n px).length=n*4:=by simp[pxV]
theorem zdy (n:Nat) (px:Nat->P4) (j:Nat) (h:j<n*4):(pxV n px)[j]? =some (cellP px j):=by simp[pxV,h]
theorem cellP_0 (px:Nat->P4) (i:Nat):cellP px (i*4)=.int .u8 (px i).r:=by
 unfold cellP;rw[qad (by omega),show i*4/4=i by omega]
theorem cellP_1 (px:Nat->P4) (i:Nat):cellP px (i*4+1)=.int .u8 (px i).g:=by
 unfold cellP;rw[qac (by omega),qad (by omega),show (i*4+1)/4=i by omega]
theorem cellP_2 (px:Nat->P4) (i:Nat):cellP px (i*4+2)=.int .u8 (px i).b:=by
 unfold cellP;rw[qac (by omega),qac (by omega),qad (by omega),show (i*4+2)/4=i by omega]
theorem cellP_3 (px:Nat->P4) (i:Nat):cellP px (i*4+3)=.int .u8 (px i).a:=by
 unfold cellP;rw[qac (by omega),qac (by omega),qac (by omega),show (i*4+3)/4=i by omega]
theorem zp8 (n:Nat) (px qx:Nat->P4) (h:∀i,i<n->px i=qx i):pxV n px=pxV n qx:=by
 unfold pxV;apply List.map_congr_left;intro j hj;have hj':j/4<n:=by have:=List.mem_range.1 hj;omega
 unfold cellP;rw[h _ hj']
theorem zfb (n:Nat) (px:Nat->P4):pxV (n+1) px=pxV n px ++ [.int .u8 (px n).r,.int .u8 (px n).g,.int .u8 (px n).b,.int .u8 (px n).a]:=by
 unfold pxV;rw[show (n+1)*4=n*4+1+1+1+1 by omega,qbC,qbC,qbC,qbC];simp only[qbs,qaG,qa9,cellP_0,cellP_1,cellP_2,cellP_3,qat,qa2,qbx]
theorem zdw:(Tryz.prog.info? 53).map (λ i=>(i.zero,i.size,i.bytes))=some (some (pixv 0 0 0 0),4,4):=by kernel_rfl
theorem Pxs.of_own {w:World} {base:Nat} {v:Value} {n:Nat} {px:Nat->P4} (h:w.ownsRow base 53 4 v n (pxV n px)) (hb:∀i,i<n->(px i).Ok):
  ∃x c,v=.slice x n c/\Pxs w x n px/\∀a,x=some a->base<=a.block:=by
 rcases zah h with⟨rfl,h0⟩ | ⟨g,cap,rfl⟩
 ·subst h0;exact⟨none,0,rfl,⟨λ _=>rfl,λ a h=>by cases h⟩,λ a h=>by cases h⟩
 refine⟨some ⟨g,0,none⟩,cap,rfl,⟨(λ h=>by cases h),λ a ha i hi=>?_⟩,λ a ha=>?_⟩
 ·injection ha with ha;subst ha;have e:∀k,(⟨g,0,none⟩:Addr).add k=⟨g,k,none⟩:=zae g;rw[e];refine⟨?_,?_,?_,?_,hb i hi⟩
  ·rw[h.cellAt _ (by omega),zdy _ _ _ (by omega),cellP_0]
  ·show w.cell? ⟨g,i*4+1,none⟩=_;rw[h.cellAt _ (by omega),zdy _ _ _ (by omega),cellP_1]
  ·show w.cell? ⟨g,i*4+2,none⟩=_;rw[h.cellAt _ (by omega),zdy _ _ _ (by omega),cellP_2]
  show w.cell? ⟨g,i*4+3,none⟩=_;rw[h.cellAt _ (by omega),zdy _ _ _ (by omega),cellP_3]
 injection ha with ha;subst ha;exact (h.lt g rfl).1
structure PicAt (w:World) (b:Nat) (W H:Int) (v:Value):Prop where
 c0:w.cell? ⟨b,0,none⟩=some (.int .i64 W)
 c1:w.cell? ⟨b,1,none⟩=some (.int .i64 H)
 c2:w.cell? ⟨b,2,none⟩=some v
theorem PicAt.ext {w w':World} {b:Nat} {W H:Int} {v:Value} (h:PicAt w b W H v) (hE:Ext w w'):PicAt w' b W H v:=by
 have hl:=qab w _ h.c0;exact⟨(hE.cell (p:=⟨b,0,none⟩) hl).trans h.c0,(hE.cell (p:=⟨b,1,none⟩) hl).trans h.c1,(hE.cell (p:=⟨b,2,none⟩) hl).trans h.c2⟩
theorem PicAt.new (w:World) (W H:Int) (v:Value) (t:TypeId):PicAt (w.alloc (.cells #[.int .i64 W,.int .i64 H,v] t)) w.heap.size W H v:=by
 refine⟨?_,?_,?_⟩ <;> (rw[qaV _ _ _ _ rfl];rfl)
theorem PicAt.set {w:World} {b:Nat} {W H W' H':Int} {v v':Value} (h:PicAt w b W H v):PicAt (((w.setCell ⟨b,0,none⟩ (.int .i64 W')).setCell ⟨b,1,none⟩ (.int .i64 H')).setCell ⟨b,2,none⟩ v') b W' H' v':=by
 have e:∀i j,i≠j->(⟨b,i,none⟩:Addr)≠⟨b,j,none⟩:=λ i j hij q=>by injection q with _ q;exact hij q
 refine⟨?_,?_,?_⟩
 ·rw[qah _ _ _ _ (e 2 0 (by decide)),qah _ _ _ _ (e 1 0 (by decide))];exact qa0 _ _ _ h.c0
 ·rw[qah _ _ _ _ (e 2 1 (by decide))];exact qa0 _ _ _ ((qah _ _ _ _ (e 0 1 (by decide))).trans h.c1)
 exact qa0 _ _ _ ((qah _ _ _ _ (e 1 2 (by decide))).trans ((qah _ _ _ _ (e 0 2 (by decide))).trans h.c2))
theorem Ext.set3 {w0 w:World} {b:Nat} (h:Ext w0 w) (hb:w0.heap.size<=b) (x y z:Value):Ext w0 (((w.setCell ⟨b,0,none⟩ x).setCell ⟨b,1,none⟩ y).setCell ⟨b,2,none⟩ z):=((qaL h hb _).setCell hb _).setCell hb _
theorem zhE {w:World} {base:Nat} {e:TypeId} {size:Nat} {v:Value} {n:Nat} {xs:List Value} (h:w.ownsRow base e size v n xs) {b:Nat} (hb:v.ownBlock≠some b) (x y z:Value):(((w.setCell ⟨b,0,none⟩ x).setCell ⟨b,1,none⟩ y).setCell ⟨b,2,none⟩ z).ownsRow base e size v n xs:=
 qaI (qaI (qaI h hb _) hb _) hb _
theorem Bk.pic {w:World} {b:Nat} {W H:Int} {v:Value} (h:Bk w b #[.int .i64 W,.int .i64 H,v]):PicAt w b W H v:=⟨h.cell 0,h.cell 1,h.cell 2⟩
def sideB (n:Int):Bool:=decide (1<=n/\n<=256)
theorem zc1 {n:Int} (h:sideB n=true):1<=n/\n<=256:=qaU h
def zcV (W H:Int) (n:Nat):Bool:=sideB W&&sideB H&&decide ((n:Int)=W*H)
theorem zk7 {W H:Int} {n:Nat} (h:zcV W H n=true):∃a b:Nat,W=a/\H=b/\1<=a/\a<=256/\1<=b/\b<=256/\n=a*b:=by
  unfold zcV at h;simp only[Bool.and_eq_true,decide_eq_true_eq] at h;obtain⟨⟨h1,h2⟩,h3⟩:=h;have q1:=zc1 h1;have q2:=zc1 h2;refine⟨W.toNat,H.toNat,by omega,by omega,by omega,by omega,by omega,by omega,?_⟩;have e:((W.toNat*H.toNat:Nat):Int)=W*H:=by rw[Int.natCast_mul,Int.toNat_of_nonneg (by omega),Int.toNat_of_nonneg (by omega)]
  omega
theorem zpH {W H:Int} (h1:sideB W=true) (h2:sideB H=true):0<=W*H/\W*H<=65536:=by
  have q1:=zc1 h1;have q2:=zc1 h2;exact⟨Int.mul_nonneg (by omega) (by omega),Int.le_trans (Int.mul_le_mul q1.2 q2.2 (by omega) (by omega)) (by decide)⟩
deriving instance DecidableEq for P4
theorem zhq {p q:P4} (h:p.val=q.val):p=q:=by
 cases p;cases q
 simpa [P4.val,pixv] using h
theorem zbP:Maps.Keyed Tryz.prog 53 :=Maps.Keyed.of_law (deep_law_laid (by kernel_rfl) (m:=5) (by decide) (qaU (by kernel_rfl)) (by kernel_rfl) (by kernel_rfl))
theorem zer {c:Int} (hc:Pix.Byte c):(Lit.int .u8 c).wf=true:=WalkArith.wf_u8 (by have:=hc.1;have:=hc.2;omega)
theorem zn4 {P : Program} {K U : TypeId} {f0 f1 f2 f3 : Field} (uK : P.underlying K = some (.struct #[f0, f1, f2, f3])) (t0 : f0.type = U) (t1 : f1.type = U) (t2 : f2.type = U) (t3 : f3.type = U) (o0 : f0.offset = 0) (o1 : f1.offset = 1) (o2 : f2.offset = 2) (o3 : f3.offset = 3) (n0 : (f0.name != "_") = true) (n1 : (f1.name != "_") = true) (n2 : (f2.name != "_") = true) (n3 : (f3.name != "_") = true)
  (uU:P.underlying U=some (.int .u8)) (e1:P.keyType K=true) (e2:P.cellsOf K=4) (e4:P.cellsOf U=1) (hp:0<P.types.size) (p:P4) (h:p.Ok):∃l,keyOf P K p.val=some l:=by
 have h1:=zer h.r;have h2:=zer h.g;have h3:=zer h.b;have h4:=zer h.a;obtain⟨d,hd⟩:∃d,P.types.size=d+1:=⟨P.types.size-1,by omega⟩;refine⟨.string (keyBytes [.int .u8 p.r,.int .u8 p.g,.int .u8 p.b,.int .u8 p.a]),?_⟩;unfold keyOf P4.val;simp[uK,Value.formed,Value.cells,Program.keyLits,hd,h1,h2,h3,h4,e1,e2,e4,uU,t0,t1,t2,t3,o0,o1,o2,o3,n0,n1,n2,n3]
theorem zq0: Tryz.prog.keyType 53 =true:=by kernel_rfl
theorem zq7: Tryz.prog.cellsOf 53 =4:=by kernel_rfl
theorem zpI: Tryz.prog.cellsOf 5 =1:=by kernel_rfl
theorem zqt:0 < Tryz.prog.types.size:=qaU (by kernel_rfl)
theorem zcL (p:P4) (h:p.Ok):∃l,keyOf Tryz.prog 53 p.val=some l:=
 zn4 Tryz.underlying53 rfl rfl rfl rfl rfl rfl rfl rfl rfl rfl rfl rfl Tryz.underlying5 zq0 zq7 zpI zqt p h
def MP (w:World) (b:Nat) (g:P4->Option Nat):Prop:=
 ∃es clock,w.heap[b]? =some (.map es clock)/\(∀e∈es.toList,∃p n,e.key=p.val/\p.Ok/\e.val=.int .i64 ((n:Nat):Int)/\g p=some n)/\(∀p n,p.Ok->g p=some n->∃e∈es.toList,e.key=p.val)/\(∀(i j:Nat) (d e:MapEntry),es[i]? =some d->es[j]? =some e->d.key=e.key->i=j)
theorem MP.lt {w:World} {b:Nat} {g:P4->Option Nat} (h:MP w b g):b<w.heap.size:=by
 obtain⟨es,clock,hb,_⟩:=h;exact qbK hb
theorem MP.keeps {S:Nat->Prop} {w w':World} {b:Nat} {g:P4->Option Nat} (h:MP w b g) (hk:Keeps S w w') (hS:¬ S b):MP w' b g:=by
 have hl:=h.lt;obtain⟨es,clock,hb,r⟩:=h;exact⟨es,clock,(hk.block b hl hS).trans hb,r⟩
theorem MP.ext {w w':World} {b:Nat} {g:P4->Option Nat} (h:MP w b g) (hE:Ext w w'):MP w' b g:=h.keeps (S:=λ _=>False) hE.keeps id
theorem MP.new (w:World) (g:P4->Option Nat) (hg:∀p,g p=none):MP (w.alloc (.map #[] 0)) w.heap.size g:=
 ⟨#[],0,qbP w _,(by simp),(λ p n _ h=>by rw[hg] at h;cases h),(λ i j d e h=>by simp at h)⟩
theorem MP.look {w:World} {b:Nat} {p:P4} {g:P4->Option Nat} (h:MP w b g) (hp:p.Ok):
  (Instr.lookup 54 (.map (some b)) (p.val) true).run Tryz.prog w=.ok (.tuple #[.int .i64 (((g p).getD 0:Nat):Int),.bool (g p).isSome]) w:=by
 obtain⟨es,clock,hb,h1,h2,h3⟩:=h;obtain⟨l,hl⟩:=zcL p hp;have hzv:(zeroValue 3).run Tryz.prog w=.ok (.int .i64 0) w:=by kernel_rfl
 have hes:∀e∈es.toList,∃l,keyOf Tryz.prog 53 e.key=some l:=by
  intro e he;obtain⟨q,n,hk',q1,_⟩:=h1 e he;rw[hk'];exact zcL q q1
 have hcheck:=zbP.check w es.isEmpty hl;rcases zbP.find w hl es.toList hes with⟨hf,hno⟩ | ⟨j,e,hf,hj,he⟩
 ·have hg:g p=none:=by
   cases hq:g p with
   | none=>rfl
   | some n=>obtain⟨e,hm,hk2⟩:=h2 p n hp hq;exact absurd hk2 (hno e hm)
  rw[hg];simp[Instr.lookup,qbO Tryz.underlying54,qbG hb,hcheck,hf,hzv,Result.andThen]
 obtain⟨q,n,hk',_,hv,hg⟩:=h1 e (qa5 hj);obtain rfl:=zhq (hk'.symm.trans he);rw[hg];simp[Instr.lookup,qbO Tryz.underlying54,qbG hb,hcheck,hf,hv,Result.andThen]
def updP (g:P4->Option Nat) (p:P4) (n:Nat):P4->Option Nat:=λ q=>if q=p then some n else g q
theorem MP.store {w:World} {b n:Nat} {p:P4} {g:P4->Option Nat} (h:MP w b g) (hp:p.Ok):
  ∃w',(Instr.mapUpdate 54 (.map (some b)) (p.val) (.int .i64 (n:Int))).run Tryz.prog w=.ok () w'/\MP w' b (updP g p n)/\Keeps (λ i=>i=b) w w':=by
 have hlt:=h.lt;obtain⟨es,clock,hb,h1,h2,h3⟩:=h;obtain⟨l,hl⟩:=zcL p hp;have hes:∀e∈es.toList,∃l,keyOf Tryz.prog 53 e.key=some l:=by
  intro e he;obtain⟨q,n,hk',q1,_⟩:=h1 e he;rw[hk'];exact zcL q q1
 have hcheck:=zbP.check w false hl;have hstay:=zbP.stays w hl;have hset:∀o:Obj,(w.heap.setIfInBounds b o)[b]? =some o:=by
  intro o;rw[Array.getElem?_setIfInBounds];simp[hlt]
 have hkeep:∀o:Obj,Keeps (λ i=>i=b) w (ChangeMaps.setBlock w b o):=λ o=>⟨rfl,rfl,rfl,by simp[ChangeMaps.setBlock],λ i hi hn=>by
  show (w.heap.setIfInBounds b _)[i]? =_;rw[Array.getElem?_setIfInBounds,qac (λ e=>hn e.symm)]⟩
 rcases zbP.find w hl es.toList hes with⟨hf,hno⟩ | ⟨j,e0,hf,hj,he0⟩
 ·refine⟨ChangeMaps.setBlock w b (.map (es.push { key:=p.val,val:=.int .i64 (n:Int),born:=clock }) (clock+1)),?_,⟨_,_,hset _,?_,?_,?_⟩,hkeep _⟩
  ·simp[Instr.mapUpdate,qbO Tryz.underlying54,qbG hb,hcheck,hf,MapKept.run_setObj_map _ hb,Result.andThen,ChangeMaps.setBlock]
  ·intro e he;rw[Array.toList_push,qa3,qaN] at he;rcases he with he | rfl
   ·obtain⟨q,n',q1,q2,q5,q6⟩:=h1 e he;refine⟨q,n',q1,q2,q5,?_⟩;unfold updP;rw[qac]
    ·exact q6
    rintro rfl;exact hno e he q1
   exact⟨p,n,rfl,hp,rfl,qad rfl⟩
  ·intro q n' bq hq;unfold updP at hq;rw[Array.toList_push];by_cases hkc:q=p
   ·obtain rfl:=hkc;exact⟨_,List.mem_append_right _ (qaN.2 rfl),rfl⟩
   rw[qac hkc] at hq;obtain⟨e,hm,hk2⟩:=h2 q n' bq hq;exact⟨e,qcl _ hm,hk2⟩
  intro i j d e hi hj he;rw[Array.getElem?_push] at hi hj;have no:∀(i:Nat) (d:MapEntry),es[i]? =some d->d.key≠p.val:=λ i d hi=>hno d (by rw[qbU,qbH];exact⟨i,hi⟩);split at hi <;> split at hj
  ·omega
  ·injection hi with hi;subst hi;exact absurd he.symm (no j e hj)
  ·injection hj with hj;subst hj;exact absurd he (no i d hi)
  exact h3 i j d e hi hj he
 have hje:es[j]? =some e0:=by rw[<- Array.getElem?_toList];exact hj
 refine⟨ChangeMaps.setBlock w b (.map (es.modify j λ e=> { e with key:=p.val,val:=.int .i64 (n:Int) }) clock),?_,⟨_,_,hset _,?_,?_,?_⟩,hkeep _⟩
 ·have hg0:((es[j]?).map (·.key)).getD (p.val)=p.val:=by rw[hje];exact he0
  simp[Instr.mapUpdate,qbO Tryz.underlying54,qbG hb,hcheck,hf,hje,he0,hstay,MapKept.run_setObj_map _ hb,Result.andThen,ChangeMaps.setBlock]
 ·intro e he;rw[qbU,qbH] at he;obtain⟨i,hi⟩:=he;rw[qbk] at hi;split at hi
  ·rename_i hji;subst hji;rw[hje] at hi;simp at hi;subst hi;exact⟨p,n,rfl,hp,rfl,qad rfl⟩
  have hm:e∈es.toList:=by rw[qbU,qbH];exact⟨i,hi⟩
  obtain⟨q,n',q1,q2,q5,q6⟩:=h1 e hm;by_cases hkc:q=p
  ·obtain rfl:=hkc;exact absurd (h3 j i e0 e hje hi (he0.trans q1.symm)) (by assumption)
  exact⟨q,n',q1,q2,q5,(qac hkc).trans q6⟩
 ·intro q n' bq hq;unfold updP at hq;by_cases hkc:q=p
  ·obtain rfl:=hkc;exact⟨{ e0 with key:=q.val,val:=.int .i64 (n:Int) },by rw[qbU,qbH];exact⟨j,by rw[qbk,qad rfl,hje];rfl⟩,rfl⟩
  rw[qac hkc] at hq;obtain⟨e,hm,hk2⟩:=h2 q n' bq hq;refine⟨e,?_,hk2⟩;rw[qbU,qbH] at hm⊢;obtain⟨i,hi⟩:=hm;refine⟨i,?_⟩;rw[qbk,qac]
  ·exact hi
  rintro rfl;rw[hje] at hi;injection hi with hi;subst hi;exact hkc (zhq (he0.symm.trans hk2)).symm
 intro i k d e hi hk he;have same:∀(i:Nat) (d:MapEntry),(es.modify j λ e=> { e with key:=p.val,val:=.int .i64 (n:Int) })[i]? =some d->∃d',es[i]? =some d'/\d'.key=d.key:=by
  intro i d hi;rw[qbk] at hi;split at hi
  ·rename_i hji;subst hji;rw[hje] at hi;simp at hi;subst hi;exact⟨e0,hje,he0⟩
  exact⟨d,hi,rfl⟩
 obtain⟨d',a1,a2⟩:=same i d hi;obtain⟨e',b1,b2⟩:=same k e hk;exact h3 i k d' e' a1 b1 (a2.trans (he.trans b2.symm))
namespace Png
def pals (px:Nat->P4):Nat->List P4
 | 0=> []
 | k+1=>if px k∈pals px k then pals px k else pals px k ++ [px k]
def num (l:List P4) (p:P4):Option Nat:=if p∈l then some (l.idxOf p) else none
def atL (l:List P4) (i:Nat):P4:=l.getD i P4.zero
theorem zoi {l:List P4} {p:P4} (h:p ∉ l):updP (num l) p l.length=num (l ++ [p]):=by
 funext q
 unfold updP num;by_cases hq:q=p
 ·subst hq;rw[qad rfl,qad (by simp),List.idxOf_append,qac h];simp
 rw[qac hq];by_cases hm:q∈l
 ·rw[qad hm,qad (by simp[hm]),List.idxOf_append,qad hm]
 rw[qac hm,qac (by simp[hm,hq])]
theorem zgd {px:Nat->P4} {k:Nat} (h:px k∈pals px k):pals px (k+1)=pals px k:=qad h
theorem ze6 {px:Nat->P4} {k:Nat} (h:px k ∉ pals px k):pals px (k+1)=pals px k ++ [px k]:=qac h
theorem ze8 (px:Nat->P4):∀k,(pals px k).length<=k
 | 0=>qaj 0
 | k+1=>by
  have:=ze8 px k;by_cases h:px k∈pals px k
  ·rw[zgd h];omega
  rw[ze6 h,qaa,qby];omega
theorem zh6 (px:Nat->P4):∀k p,p∈pals px k↔∃i,i<k/\px i=p
 | 0,p=>by simp[pals]
 | k+1,p=>by
  have ih:=zh6 px k;by_cases h:px k∈pals px k
  ·rw[zgd h,ih p];constructor
   ·rintro⟨i,hi,e⟩;exact⟨i,by omega,e⟩
   rintro⟨i,hi,e⟩;by_cases hk:i=k
   ·subst hk;subst e;exact (ih _).1 h
   exact⟨i,by omega,e⟩
  rw[ze6 h,qa3,qaN,ih p];constructor
  ·rintro (⟨i,hi,e⟩ | e)
   ·exact⟨i,by omega,e⟩
   exact⟨k,by omega,e.symm⟩
  rintro⟨i,hi,e⟩;by_cases hk:i=k
  ·subst hk;exact .inr e.symm
  exact .inl ⟨i,by omega,e⟩
theorem zol (l:List P4) (p:P4):pxV (l ++ [p]).length (atL (l ++ [p]))=pxV l.length (atL l) ++ [.int .u8 p.r,.int .u8 p.g,.int .u8 p.b,.int .u8 p.a]:=by
 rw[qaa,qby,zfb];have e:atL (l ++ [p]) l.length=p:=by unfold atL;simp
 rw[e,zp8 l.length (atL (l ++ [p])) (atL l) (λ i hi=>by unfold atL;simp[qaY,qbj hi])]
end Png
structure PlS (w:World) (W H:Int) (x:Value) (wr:World) (v:Value) (m l:List P4):Prop where
 ext:Ext w wr
 pic:PicAt wr w.heap.size W H x
 map:MP wr (w.heap.size+1) (Png.num m)
 own:wr.ownsRow (w.heap.size+2) 53 4 v l.length (pxV l.length (Png.atL l))
 ok:∀p∈l,p.Ok
 hs:w.heap.size+2<=wr.heap.size
theorem PlS.step {w:World} {W H:Int} {x:Value} {wr wz:World} {v:Value} {m l:List P4} (h:PlS w W H x wr v m l) (hE:Ext wr wz):PlS w W H x wz v m l:=
 ⟨h.ext.trans hE,h.pic.ext hE,h.map.ext hE,zaa (S:=λ _=>False) h.own hE.keeps (λ _ _=>id),h.ok,qam h.hs hE.size⟩
theorem PlS.stored {w:World} {W H:Int} {x:Value} {wr wz:World} {v:Value} {m l:List P4} {p:P4} (h:PlS w W H x wr v m l) (hp:p ∉ m) (hm:MP wz (w.heap.size+1) (updP (Png.num m) p m.length)) (hK:Keeps (λ i=>i=w.heap.size+1) wr wz):PlS w W H x wz v (m ++ [p]) l:=by
 have hs:=h.hs;have c0:(⟨w.heap.size,0,none⟩:Addr).block≠w.heap.size+1:=by show w.heap.size≠w.heap.size+1;omega
 refine⟨Below.trans h.ext (hK.below h.ext.size (λ k hk q=>by omega)),?_,by rw[<- Png.zoi hp];exact hm,?_,h.ok,qam h.hs hK.size⟩
 ·exact⟨(hK.cell (p:=⟨w.heap.size,0,none⟩) (by show w.heap.size<_;omega) c0).trans h.pic.c0,(hK.cell (p:=⟨w.heap.size,1,none⟩) (by show w.heap.size<_;omega) c0).trans h.pic.c1,(hK.cell (p:=⟨w.heap.size,2,none⟩) (by show w.heap.size<_;omega) c0).trans h.pic.c2⟩
 exact zaa h.own hK (λ k hk e=>by have:=(h.own.lt k hk).1;omega)
theorem PlS.grown {w:World} {W H:Int} {x:Value} {wr wz:World} {v v':Value} {m l:List P4} {p:P4} {o:Obj} (h:PlS w W H x wr v m l) (hp:p.Ok) (hown:wz.ownsRow (w.heap.size+2) 53 4 v' (l.length+1) (pxV l.length (Png.atL l) ++ [.int .u8 p.r,.int .u8 p.g,.int .u8 p.b,.int .u8 p.a])) (hg:(wr.alloc o).grownBy wz v.ownBlock):PlS w W H x wz v' m (l ++ [p]):=by
 have hs:=h.hs;have hK:Keeps (λ k=>v.ownBlock=some k) wr wz:=(Keeps.alloc (Ext.keeps (S:=λ i=>v.ownBlock=some i) (Ext.refl wr)) o).trans (Keeps.grown hg) (λ _ _ q=>q);have nb:∀k,k<w.heap.size+2->¬ v.ownBlock=some k:=λ k hk e=>by have:=(h.own.lt k e).1;omega
 refine⟨Below.trans h.ext (hK.below h.ext.size (λ k hk q=>by have:=(h.own.lt k q).1;omega)),?_,h.map.keeps hK (nb _ (by omega)),?_,?_,qam h.hs hK.size⟩
 ·exact⟨(hK.cell (p:=⟨w.heap.size,0,none⟩) (by show w.heap.size<_;omega) (nb _ (by show w.heap.size<_;omega))).trans h.pic.c0,(hK.cell (p:=⟨w.heap.size,1,none⟩) (by show w.heap.size<_;omega) (nb _ (by show w.heap.size<_;omega))).trans h.pic.c1,(hK.cell (p:=⟨w.heap.size,2,none⟩) (by show w.heap.size<_;omega) (nb _ (by show w.heap.size<_;omega))).trans h.pic.c2⟩
 ·rw[Png.zol,qaa,qby];exact hown
 intro q hq;rcases qa3.1 hq with q1 | q1
 ·exact h.ok q q1
 rw[qaN.1 q1];exact hp
structure Bld (B b:Nat) (l:List UInt8) (w:World):Prop where
 le:B<=b
 lt:b<w.heap.size
 at_:∃p v,(p=.pointer none\/p=.pointer (some ⟨b,0,none⟩))/\w.heap[b]? =some (.cells #[p,v] 70 (0,0))/\w.ownsRow B 5 1 v l.length (Lib.byteCells l)/\v.ownBlock≠some b
theorem Bld.ext {B b:Nat} {l:List UInt8} {w w':World} (h:Bld B b l w) (hE:Ext w w'):Bld B b l w':=by
 obtain⟨h1,h2,p,v,hp,hb,ho,hn⟩:=h;exact⟨h1,by have:=hE.size;omega,p,v,hp,(hE.block b h2).trans hb,zaa ho (S:=λ _=>False) hE.keeps (λ _ _ q=>q),hn⟩
theorem Bld.fresh (w:World):Bld w.heap.size w.heap.size [] (w.alloc (.cells #[.pointer none,.slice none 0 0] 70)):=
 ⟨qaj _,by simp,_,_,.inl rfl,qbP w _,qaK _ _ _ _,by simp[Value.ownBlock]⟩
theorem zeq:(Tryz.prog.info? 70).map (·.size)=some 2:=by kernel_rfl
theorem zqm:liesAt Tryz.prog Tryz.prog.depth 70 (2 / Tryz.prog.cellsOf 70) 0 70 1=true:=by kernel_rfl
theorem zoY:(Tryz.prog.info? 5).map (λ i=>(i.zero,i.size,i.bytes))=some (some (.int .u8 0),1,1):=by kernel_rfl
theorem zha (b:Nat) (w:World) (h0:w.cell? ⟨b,0,none⟩=some (.pointer (some ⟨b,0,none⟩))):
  Calls Tryz.prog 91 #[.pointer (some ⟨b,0,none⟩)] w λ e w'=>e=.returned (.tuple #[])/\w'=w:=by
 obtain⟨j,hj,_⟩:=qbq.1 zeq;go_enter Tryz.func91,Tryz.ntmps91
 go_wp2
 rw[Lib.run_neq_ptr_same w _ Tryz.underlying68 hj];go_wp2
 go_end0;exact⟨rfl,rfl⟩
theorem zf1 (b:Nat) (w:World) (h0:w.cell? ⟨b,0,none⟩=some (.pointer none)) (hsh:w.shape? b=some (70,2)) (hfz:w.frozen? ⟨b,0,none⟩=false):
  Calls Tryz.prog 91 #[.pointer (some ⟨b,0,none⟩)] w λ e w'=>e=.returned (.tuple #[])/\w'=w.setCell ⟨b,0,none⟩ (.pointer (some ⟨b,0,none⟩)):=by
 obtain⟨j,hj,hjs⟩:=qbq.1 zeq;go_enter Tryz.func91,Tryz.ntmps91
 go_wp2
 rw[Lib.run_to_unsafe w ⟨b,0,none⟩ Tryz.underlying68 Tryz.underlying147 hj (by rw[hjs];decide) hsh (Nat.zero_lt_succ 1)];simp only[Result.andThen];rw[Oper.upon_value];go_wp2
 rw[qbo Tryz.func131 (by kernel_rfl) (by kernel_rfl) (by kernel_rfl) (e:=Extern.AbiNoEscape.same) (by kernel_rfl)];rw[Lib.run_noEscape];simp only[Result.andThen];rw[Oper.upon_value];go_wp2
 rw[Lib.run_from_unsafe w ⟨b,0,none⟩ Tryz.underlying147 Tryz.underlying68 hj hsh zqm];simp only[Result.andThen];rw[Oper.upon_value];go_wp2
 go_end0;exact⟨rfl,rfl⟩
def BldU (B b:Nat) (l:List UInt8) (w:World):Prop:=B<=b/\b<w.heap.size/\∃v,w.heap[b]? =some (.cells #[.pointer (some ⟨b,0,none⟩),v] 70 (0,0))/\w.ownsRow B 5 1 v l.length (Lib.byteCells l)/\v.ownBlock≠some b
theorem zoa (B b:Nat) (l:List UInt8) (w:World) (h:Bld B b l w):
  Calls Tryz.prog 91 #[.pointer (some ⟨b,0,none⟩)] w λ e w'=>e=.returned (.tuple #[])/\BldU B b l w'/\Below B w w'/\Lib.OthersKept 5 (some b) w w':=by
 obtain⟨h1,h2,p,v,hp,hb,ho,hn⟩:=h;rcases hp with rfl | rfl
 ·refine (zf1 b w (by rw[qbQ hb];rfl) (by simp[World.shape?,hb]) (Lib.frozen_of_heap hb 0)).mono ?_;rintro e w' ⟨rfl,rfl⟩;have hA:Lib.BuilderAt 70 5 B b (.pointer none) (Lib.byteCells l) w:=⟨h1,v,hb,by rw[Lib.byteCells_length];exact ho,hn⟩;obtain⟨_,v',q1,q2,q3⟩:=hA.used (.pointer (some ⟨b,0,none⟩));rw[Lib.byteCells_length] at q2;exact⟨rfl,⟨h1,qbK q1,v',q1,q2,q3⟩,(qco B w).setCell (p:=⟨b,0,none⟩) h1 _,(Lib.OthersKept.refl _ _ w).setCell ⟨b,0,none⟩ rfl _⟩
 refine (zha b w (by rw[qbQ hb];rfl)).mono ?_;rintro e w' ⟨rfl,rfl⟩;exact⟨rfl,⟨h1,h2,v,hb,ho,hn⟩,qco B _,Lib.OthersKept.refl _ _ _⟩
theorem zdx (s:ByteArray):Lib.strCells s=Lib.byteCells s.data.toList:=rfl
theorem zgA (B b:Nat) (l:List UInt8) (s:ByteArray) (w:World) (h:Bld B b l w) (hlen:l.length+s.size<=140737488355328) (hBw:B<=w.heap.size):
  Calls Tryz.prog 56 #[.pointer (some ⟨b,0,none⟩),.string s] w λ e w'=>e=.returned (.tuple #[.int .i64 s.size,.nilIface])/\Bld B b (l++s.data.toList) w'/\Below B w w'/\Lib.OthersKept 5 (some b) w w':=by
 obtain⟨i0,hi,hz0,hz1,hz2⟩:=qbb zoY;go_enter Tryz.func56,Tryz.ntmps56
 go_wp2_with fail;refine (zoa B b l w h).mono ?_;rintro e w1 ⟨rfl,⟨hB,hlt,v,hbk,hown,hne⟩,hb1,hk1⟩;have c1:w1.cell? ⟨b,1,none⟩=some v:=by rw[qbQ hbk];rfl
 go_wp2_with (at_builtin;refine Lib.wpList_append_own_string _ rfl _ _ 62 9 rfl B 5 i0 Tryz.underlying62 Tryz.underlying9 hi hz0 hz1 hz2 _ _ _ rfl hown s rfl ?c3 ?c4 ?c5 ?_)
 case c3=>unfold maxLen;omega
 case c4=>omega
 case c5=>have:=hb1.size;omega
 intro v' w2 hown' hgrow _;have hb2:w2.heap[b]? =some (.cells #[.pointer (some ⟨b,0,none⟩),v] 70 (0,0)):=by
  rw[hgrow.block b hlt (λ e=>hne e.symm)];exact hbk
 have d1:w2.cell? ⟨b,1,none⟩=some v:=by rw[qbQ hb2];rfl
 have f1:w2.frozen? ⟨b,1,none⟩=false:=Lib.frozen_of_heap hb2 1;obtain⟨ao,n',cap,rfl⟩:∃ao n' cap,v'=.slice ao n' cap:=by
  rcases hown'.2 with⟨hv,_⟩ | ⟨g,cap,cur,hv,_⟩
  ·exact⟨_,_,_,hv⟩
  exact⟨_,_,_,hv⟩
 go_wp2_with fail;go_ret2;have hA:Lib.BuilderAt 70 5 B b (.pointer (some ⟨b,0,none⟩)) (Lib.byteCells l++Lib.strCells s) (w2.setCell ⟨b,1,none⟩ (.slice ao n' cap)):=
  Lib.BuilderAt.put (T:=70) (e:=5) hB hb2 (bs':=Lib.byteCells l++Lib.strCells s) (by simpa [Lib.strCells_length,Lib.byteCells_length] using hown') (by decide)
 obtain⟨_,v2,q1,q2,q3⟩:=hA;refine⟨rfl,⟨hB,qbK q1,_,v2,.inr rfl,q1,?_,q3⟩,?_,(hk1.grown hgrow (Lib.ownsRowF_kind (World.ownsRowF_of hown))).setCell ⟨b,1,none⟩ rfl _⟩
 ·have e1:Lib.byteCells l++Lib.strCells s=Lib.byteCells (l++s.data.toList):=by rw[zdx];simp[Lib.byteCells]
  rw[e1] at q2;rwa [Lib.byteCells_length] at q2
 exact (hb1.grown hgrow (by have:=hb1.size;omega) (λ k hk=>(hown.lt k hk).1)).setCell (p:=⟨b,1,none⟩) hB _
theorem zpf (B b:Nat) (l:List UInt8) (w:World) (h:Bld B b l w):
  Calls Tryz.prog 58 #[.pointer (some ⟨b,0,none⟩)] w λ e w'=>e=.returned (.int .i64 l.length)/\w=w':=by
 obtain⟨h1,h2,p,v,hp,hb,ho,hn⟩:=h;obtain⟨ao,cap,rfl⟩:∃ao cap,v=.slice ao l.length cap:=by
  rcases ho.2 with⟨hv,h0⟩ | ⟨g,cap,cur,hv,_⟩
  ·exact⟨none,0,by rw[hv,h0]⟩
  exact⟨_,_,hv⟩
 have c1:w.cell? ⟨b,1,none⟩=some (.slice ao l.length cap):=by rw[qbQ hb];rfl
 go_enter Tryz.func58,Tryz.ntmps58
 go_wp2
 go_ret;exact⟨rfl,rfl⟩
set_option maxHeartbeats 1000000 in
theorem zk3 (B b:Nat) (l:List UInt8) (w:World) (h:Bld B b l w) (h0:l≠[]):
  Calls Tryz.prog 31 #[.pointer (some ⟨b,0,none⟩)] w λ e w'=>e=.returned (.string ⟨l.toArray⟩)/\Below B w w':=by
 obtain⟨hB,h2,p,v,hp,hbk,hown,hne⟩:=h;have hl0:l.length≠0:=by simpa using h0
 obtain⟨g,cap,cur,rfl,hbg,hg,hnc,hcm,hcs,htake⟩:∃g cap cur,v=.slice (some ⟨g,0,none⟩) l.length cap/\B<=g/\w.heap[g]? =some (.cells cur 5 (0,0))/\l.length<=cap/\cap<=maxLen/\cur.size=cap*1/\cur.toList.take (l.length*1)=Lib.byteCells l:=by
  rcases hown.2 with⟨_,hz⟩ | ⟨g,cap,cur,hv,r⟩
  ·exact absurd hz hl0
  exact⟨g,cap,cur,hv,r⟩
 have c1:w.drew.cell? ⟨b,1,none⟩=some (.slice (some ⟨g,0,none⟩) l.length cap):=by
  have this:w.drew.heap[b]? =some (.cells #[p,.slice (some ⟨g,0,none⟩) l.length cap] 70 (0,0)):=hbk;rw[qbQ this];rfl
 have hSD:(Builtin.unsafeSliceData_ #[62] 116 #[.slice (some ⟨g,0,none⟩) l.length cap]).run Tryz.prog w.drew=.ok (.pointer (some ⟨g,0,none⟩)) w.drew:=
  Lib.run_unsafeSliceData_row _ _ _ _ _ _ (by omega)
 have hUS:(Builtin.unsafeString_ #[116,3] 9 #[.pointer (some ⟨g,0,none⟩),.int .i64 l.length]).run Tryz.prog w.drew=.ok (.string ⟨l.toArray⟩) (w.drew.freeze ⟨g,0,none⟩ l.length):=by
  refine Lib.run_unsafeString_row w.drew 116 3 9 5 Tryz.underlying116 (by kernel_rfl) g cur.size (by have hg':w.drew.heap[g]? =some (.cells cur 5 (0,0)):=hg;simp[World.shape?,hg']) l h0 (by omega) (by unfold maxLen at hcm;omega) ?_;intro j x hx;have:=hown.cells (g:=g) rfl j (.int .u8 x.toNat) (by simp[Lib.byteCells,hx]);exact this
 have mixed: Tryz.prog.follows .mixedOrders=true:=by kernel_rfl
 go_enter Tryz.func31,Tryz.ntmps31
 go_wp2
 go_region_o
 all_goals (go_wp2;go_ret;exact⟨rfl,Lib.below_freeze (qag (qco B w)) (p:=⟨g,0,none⟩) hbg _⟩)
theorem zab {P:Program} {md:Region.Mode} {ops:Array Oper} {Q:Exit->Act->World->Prop} {S:World->Prop} {fuel:Nat} {listed:Array Bool} {a:Act} {W:World} (F:World->Prop) (h1:F W) (h2:∀wz,F wz->wpAnyH P md ops Q S fuel listed a wz):wpAnyH P md ops Q S fuel listed a W:=h2 W h1
theorem rgW {P:Program} {id:Nat} {ops:Array Oper} {Q:Exit->Act->World->Prop} {a:Act} {w:World} (h:∀wz,Ext w wz->wpAnyH P .any ops Q (λ _=>True) ops.size (Array.replicate ops.size false) a wz) (hm:P.follows .mixedOrders=true:=by kernel_rfl):(Code.region id ops true).wp P Q a w:=qar hm trivial λ _=>h _ (show Ext w w.drew from qag (Ext.refl w))
theorem PlS.start (w:World) (W H:Int) (x:Value) (t:TypeId):PlS w W H x ((w.alloc (.cells #[.int .i64 W,.int .i64 H,x] t)).alloc (.map #[] 0)) (.slice none 0 0) [] []:=by
 refine⟨((Ext.refl _).alloc _).alloc _,(PicAt.new w W H x t).ext ((Ext.refl _).alloc _),?_,qaK _ _ _ _,by simp,by simp⟩;have:=MP.new (w.alloc (.cells #[.int .i64 W,.int .i64 H,x] t)) (Png.num []) (λ p=>by unfold Png.num;simp);simpa using this
theorem PlS.val {w:World} {W H:Int} {x:Value} {wr:World} {v:Value} {m l:List P4} (h:PlS w W H x wr v m l):∃a c,v=.slice a l.length c:=by
 rcases zah h.own with⟨rfl,h0⟩ | ⟨g,cap,rfl⟩
 ·exact⟨none,0,by rw[h0]⟩
 exact⟨_,cap,rfl⟩
def zpl (w:World) (px:Nat->P4) (n:Nat) (e:Ending) (w':World):Prop:=
 ∃y c mb,e=.returned (.tuple #[.slice y (Png.pals px n).length c,.map (some mb)])/\Pxs w' y (Png.pals px n).length (Png.atL (Png.pals px n))/\MP w' mb (Png.num (Png.pals px n))/\Ext w w'
set_option maxHeartbeats 4000000 in
theorem ziN (W H:Int) (x:Option Addr) (n cap:Nat) (px:Nat->P4) (w:World) (hx:Pxs w x n px) (hn:n<=100000000):
  Calls Tryz.prog 20 #[.agg #[.int .i64 W,.int .i64 H,.slice x n cap]] w λ e w'=>zpl w px n e w':=by
 have hmm:=@run_makeMap Tryz.prog;have HX:=Hd hx;obtain⟨i0,hi0,hz0,hz1,hz2⟩:=qbb zdw;clear hx;go_enter Tryz.func20,Tryz.ntmps20
 go_wp2_with fail;refine zac (λ wz=>PlS w W H (.slice x n cap) wz (.slice none 0 0) [] []) (PlS.start w W H _ _) ?_;intro wz hP;have c0:=hP.pic.c2;clear hmm;have HP:=Hd hP;clear hP;go_wp2_with fail;clear c0;go_loopw [5,14] (λ lv iv wr=>∃k:Nat,iv=.int .i64 (k:Int)/\k<=n/\Hid (PlS w W H (.slice x n cap) wr lv (Png.pals px k) (Png.pals px k))) (λ _ iv _=>n-(intOf iv).toNat)
 case atStart=>exact⟨0,rfl,by omega,HP⟩
 case round=>
  clear HP;obtain⟨k,rfl,hk,HP⟩:=hrel;by_cases hlt:k<n
  ·have t0:=dT (p:=(k:Int)<(n:Int));obtain⟨A,rfl⟩:=HX.out.isSome hlt;obtain⟨q,hq⟩:=nmE (px k);have HQ:=Hd hq;obtain⟨c0,c1,c2,c3,hok⟩:=(HX.out.ext HP.out.ext).2 A rfl k hlt;rw[hq] at c0 c1 c2 c3 hok;have HOK:=Hd hok;clear hok hq;have hki:(0:Int)<=(k:Int):=by omega
   have hkn:(k:Int)<(n:Int):=by omega
   have HLN:=Hd (Png.ze8 px k);obtain⟨l,hl⟩:=nmE (Png.pals px k);rw[hl] at HP HLN;have HL:=Hd hl;clear hl;obtain⟨y1,c9,rfl⟩:=HP.out.val;obtain⟨N,hN⟩:=nmE (l.length);rw[hN] at HLN HP⊢;have HNN:=Hd hN;clear hN;have hNk:N<=k:=HLN.out;have S2:=Hd (HP.out.step ((Ext.refl wr).alloc (.cells #[.int .u8 q.r,.int .u8 q.g,.int .u8 q.b,.int .u8 q.a] 53)));have B2:=Hd (Bk.at (w:=wr) (cs:=#[.int .u8 q.r,.int .u8 q.g,.int .u8 q.b,.int .u8 q.a]) (t:=53) rfl);have tl:=S2.out.map.look HOK.out;unfold P4.val pixv at tl;by_cases hm:q∈l
   ·obtain⟨f,hf⟩:∃f,Png.num l q=some f:=⟨_,qad hm⟩;rw[hf] at tl;clear B2 hf;simp only[qbn,Option.isSome_some] at tl;go_wp2_with fail;go_roundw
    case rel=>exact⟨k+1,by go_num,by omega,Hd (by rw[Png.zgd (by rw[HQ.out,HL.out];exact hm),HL.out];exact S2.out)⟩
    case measure=>simp[intOf];omega
   rw[show Png.num l q=none from qac hm] at tl;simp only[Option.getD_none,Option.isSome_none] at tl;have HM:=Hd hm;clear hm;obtain⟨w5,hrun,hM5,hK5⟩:=S2.out.map.store (n:=N) HOK.out;have S5:=Hd (S2.out.stored HM.out (by rw[HNN.out];exact hM5) hK5);have B5:=Hd (B2.out.keeps hK5 (λ e=>by have:=HP.out.hs;omega));unfold P4.val pixv at hrun;clear hM5 hK5;have k0:=B5.out.cell 0;have k1:=B5.out.cell 1;have k2:=B5.out.cell 2;have k3:=B5.out.cell 3;have HRow:=Hd (show w5.ownsRow (w.heap.size+2) 53 4 (.slice y1 N c9) N (pxV N (Png.atL l)) from by have:=S5.out.own;rw[HNN.out] at this;exact this);have hzb:=S5.out.hs;go_wp2_with (at_builtin;refine apA (HRow.out.alloc _) [.int .u8 q.r,.int .u8 q.g,.int .u8 q.b,.int .u8 q.a] ?_);intro v7 w7 hown hgrow _ hat;have S7:=Hd (S5.out.grown (p:=q) HOK.out (by rw[HNN.out];exact hown) hgrow);clear hown hgrow hat HRow S5 B5 S2 B2 k0 k1 k2 k3 tl hrun hzb;go_wp2_with fail;go_roundw
   case rel=>exact⟨k+1,by go_num,by omega,Hd (by rw[Png.ze6 (by rw[HQ.out,HL.out];exact HM.out),HL.out,HQ.out];exact S7.out)⟩
   case measure=>simp[intOf];omega
  obtain rfl:k=n:=by omega
  obtain⟨y1,c9,rfl⟩:=HP.out.val;go_wp2_with fail;go_ret2;have hR:=HP.out.own;obtain⟨y2,c2,e2,hP2,_⟩:=Pxs.of_own hR (λ i hi=>HP.out.ok _ (by unfold Png.atL;rw[qaY,qai hi];exact qcA hi));injection e2 with e3 _ e4;subst e3;subst e4;exact⟨_,_,_,rfl,hP2,HP.out.map,HP.out.ext⟩
end Go.Proofs.YthlibiocadimhaaGreatDoor
namespace Go.Proofs.YthlibiocadimhaaGreatDoor
open Go.ChangeShapes Go.WideShapes Go.RowKit Go.Deep
theorem znz (u : TypeId) (h : Tryz.prog.typeName? 3 u = some "*errors.errorString") : u = 275 :=
  typeName_ptr_named (nm := "errors.errorString") (by kernel_rfl) (by kernel_rfl) (by decide) u h
end Go.Proofs.YthlibiocadimhaaGreatDoor
namespace Go.Proofs.YthlibiocadimhaaGreatDoor
open Go.RowKit
theorem Yap4 {p:Prop} (h:p:=by
 go_enter Tryz.func114,Tryz.ntmps114
 go_wp2_with fail;refine (zed _ _ (by omega) (by omega)).mono ?_;rintro e w' ⟨rfl,rfl⟩;rw[HA.out];go_wp2_with fail;refine (zed _ _ (by omega) (by omega)).mono ?_;rintro e w' ⟨rfl,rfl⟩;rw[HB.out];go_wp2_with fail;refine (zed _ _ (by omega) (by omega)).mono ?_;rintro e w' ⟨rfl,rfl⟩;rw[HC.out];go_wp2_with fail;go_ret;exact⟨rfl,rfl⟩):p:=h
theorem Yap0 {p:Prop} (h:p:=by
 rw[qad h2];exact Yap4):p:=h
theorem Yap1 {p:Prop} (h:p:=by
 exact Yap4):p:=h
theorem Yap2 {p:Prop} (h:p:=by
 go_enter Tryz.func114,Tryz.ntmps114
 go_wp2
 go_ret;exact⟨rfl,rfl⟩):p:=h
theorem Yap3 {p:Prop} (h:p:=by
 go_enter Tryz.func113,Tryz.ntmps113
 go_wp2
 all_goals (go_ret;exact⟨.inr (.inl ⟨rfl,HC.out⟩),rfl⟩)):p:=h
def paeth (a b c:Nat):Nat:=
 let p:Int:=(a:Int)+b-c;let da:=(p-a).natAbs;let db:=(p-b).natAbs;let dc:=(p-c).natAbs;if dc<(if db<da then db else da) then c else if db<da then b else a
def fore (k:Int) (a b c:Nat):Nat:=if k=1 then a else if k=2 then b else if k=3 then (a+b)/2 else if k=4 then paeth a b c else 0
theorem zpj (k:Int) (a b c:Nat) (ha:a<256) (hb:b<256) (hc:c<256):fore k a b c<256:=by
 unfold fore paeth;split
 ·omega
 split
 ·omega
 split
 ·omega
 split
 ·dsimp only;split <;> (try split) <;> omega
 omega
theorem zed (x:Int) (w:World) (h1: -1000<=x) (h2:x<=1000):
  Calls Tryz.prog 142 #[.int .i64 x] w λ e w'=>e=.returned (.int .i64 (x.natAbs:Int))/\w=w':=by
 go_enter Tryz.func142,Tryz.ntmps142
 go_wp2
 all_goals (go_ret;exact⟨zbA (by omega),rfl⟩)
theorem zgp (s:ByteArray) (i:Int) (w:World) (h1: -9223372036854775808<=i) (h2:i<=9223372036854775807):
  Calls Tryz.prog 115 #[.string s,.int .i64 i] w λ e w'=>e=.returned (.int .u8 (if 0<=i then ((s.data.toList.getD i.toNat 0).toNat:Int) else 0))/\w=w':=by
 by_cases hi:0<=i
 ·obtain⟨k,rfl⟩:∃k:Nat,i=k:=⟨i.toNat,by omega⟩;by_cases hk:k<s.size
  ·go_enter Tryz.func115,Tryz.ntmps115
   go_wp2
   all_goals (go_ret;exact⟨rfl,rfl⟩)
  go_enter Tryz.func115,Tryz.ntmps115
  go_wp2
  all_goals (go_ret;exact⟨rfl,rfl⟩)
 go_enter Tryz.func115,Tryz.ntmps115
 go_wp2
 all_goals (go_ret;exact⟨rfl,rfl⟩)
theorem zg6 (a b c:Nat) (w:World) (ha:a<256) (hb:b<256) (hc:c<256):
  Calls Tryz.prog 114 #[.int .i64 4,.int .u8 (a:Int),.int .u8 (b:Int),.int .u8 (c:Int)] w λ e w'=>e=.returned (.int .u8 (paeth a b c:Int))/\w=w':=by
 obtain⟨da,hda⟩:∃d:Nat,((a:Int)+b-c-a).natAbs=d:=⟨_,rfl⟩;obtain⟨db,hdb⟩:∃d:Nat,((a:Int)+b-c-b).natAbs=d:=⟨_,rfl⟩;obtain⟨dc,hdc⟩:∃d:Nat,((a:Int)+b-c-c).natAbs=d:=⟨_,rfl⟩;have la:da<=255:=by omega
 have lb:db<=255:=by omega
 have lc:dc<=510:=by omega
 have hp:paeth a b c=if dc<(if db<da then db else da) then c else if db<da then b else a:=by
  unfold paeth;dsimp only;rw[hda,hdb,hdc]
 rw[hp];have HA:=Hd hda;have HB:=Hd hdb;have HC:=Hd hdc;clear hda hdb hdc hp;by_cases h1:db<da
 ·rw[qad h1,qad h1];by_cases h2:dc<db
  ·exact Yap0
  rw[qac h2];exact Yap1
 rw[qac h1,qac h1];by_cases h2:dc<da
 ·exact Yap0
 rw[qac h2];exact Yap1
theorem zf4 (k:Int) (a b c:Nat) (w:World) (h1: -9223372036854775808<=k) (h2:k<=9223372036854775807) (ha:a<256) (hb:b<256) (hc:c<256):
  Calls Tryz.prog 114 #[.int .i64 k,.int .u8 (a:Int),.int .u8 (b:Int),.int .u8 (c:Int)] w λ e w'=>e=.returned (.int .u8 (fore k a b c:Int))/\w=w':=by
 by_cases k4:k=4
 ·subst k4;exact zg6 a b c w ha hb hc
 by_cases k1:k=1
 ·subst k1;rw[show fore 1 a b c=a from rfl];exact Yap2
 by_cases k2:k=2
 ·subst k2;rw[show fore 2 a b c=b from rfl];exact Yap2
 by_cases k3:k=3
 ·subst k3;rw[show fore 3 a b c=(a+b)/2 from rfl];go_enter Tryz.func114,Tryz.ntmps114
  go_wp2
  go_ret;exact⟨zbA (by omega),rfl⟩
 rw[show fore k a b c=0 by simp[fore,k1,k2,k3,k4]];have t1:(k ==1)=false:=by simp[k1]
 have t2:(k ==2)=false:=by simp[k2]
 have t3:(k ==3)=false:=by simp[k3]
 have t4:(k ==4)=false:=by simp[k4]
 clear k1 k2 k3 k4;exact Yap2
def check (k step:Int):Prop:=0<=k/\k<=4/\1<=step/\step<=8
def zdt (row ahead:ByteArray):Prop:=ahead.size=0\/ahead.size=row.size
theorem zdn (s:ByteArray):s.toList.isEmpty=decide (s.size=0):=by
 rw[qbp];have e:s.size=s.data.toList.length:=by rw[qcq];rfl
 rw[e];cases s.data.toList <;> rfl
theorem zez (k:Int) (row ahead:ByteArray) (step:Int) (w:World) (h1: -9223372036854775808<=k) (h2:k<=9223372036854775807) (h3: -9223372036854775808<=step) (h4:step<=9223372036854775807)
  (EB ES:Value) (hB:w.cell? ⟨2,0,none⟩=some EB) (hS:w.cell? ⟨0,0,none⟩=some ES):
  Calls Tryz.prog 113 #[.int .i64 k,.string row,.string ahead,.int .i64 step] w λ e w'=>((e=.returned .nilIface/\check k step/\zdt row ahead)\/(e=.returned EB/\¬ check k step)\/(e=.returned ES/\check k step/\¬ zdt row ahead))/\w=w':=by
 by_cases hc:check k step
 ·have HC:=Hd hc;obtain⟨c1,c2,c3,c4⟩:=hc;have e1:=zdn ahead;by_cases z:ahead.size=0
  ·have HZ:=Hd z;rw[qae z] at e1;clear z;go_enter Tryz.func113,Tryz.ntmps113
   go_wp2
   go_ret;exact⟨.inl ⟨rfl,HC.out,.inl HZ.out⟩,rfl⟩
  rw[qaf z] at e1;by_cases q:ahead.size=row.size
  ·have e2:((ahead.size:Int) !=(row.size:Int))=false:=by rw[q];simp
   have HQ:=Hd q;clear q z;go_enter Tryz.func113,Tryz.ntmps113
   go_wp2
   go_ret;exact⟨.inl ⟨rfl,HC.out,.inr HQ.out⟩,rfl⟩
  have e2:((ahead.size:Int) !=(row.size:Int))=true:=by rw[qce];omega
  have HN:Hid (¬ zdt row ahead):=Hd (λ h=>by rcases h with h | h;exact z h;exact q h);clear q z;go_enter Tryz.func113,Tryz.ntmps113
  go_wp2
  go_ret;exact⟨.inr (.inr ⟨rfl,HC.out,HN.out⟩),rfl⟩
 have HC:=Hd hc;have hcs:k<0\/4<k\/step<1\/8<step:=by unfold check at hc;omega
 clear hc;rcases hcs with q | q | q | q
 ·exact Yap3
 ·exact Yap3
 ·by_cases q2:k<0
  ·exact Yap3
  by_cases q3:4<k
  ·exact Yap3
  go_enter Tryz.func113,Tryz.ntmps113
  go_wp2
  all_goals (go_ret;exact⟨.inr (.inl ⟨rfl,HC.out⟩),rfl⟩)
 go_enter Tryz.func113,Tryz.ntmps113
 go_wp2
 all_goals (go_ret;exact⟨.inr (.inl ⟨rfl,HC.out⟩),rfl⟩)
end Go.Proofs.YthlibiocadimhaaGreatDoor
namespace Crc
def T (c:Nat):Nat:=(c/2) ^^^ (if c%2=1 then 3988292384 else 0)
def Tn:Nat->Nat->Nat
 | 0,c=>c
 | n+1,c=>Tn n (T c)
theorem znC (a b:Nat):(a ^^^ b)/2=a/2 ^^^ b/2:=by
 apply Nat.eq_of_testBit_eq;intro i;simp[Nat.testBit_xor,Nat.testBit_div_two]
theorem zpR (a b:Nat):(a ^^^ b)%2=(a%2+b%2)%2:=by
 have h:=Nat.xor_mod_two_pow (a:=a) (b:=b) (n:=1);rw[show 2^1=2 from rfl] at h;rw[h];rcases Nat.mod_two_eq_zero_or_one a with h | h <;> rcases Nat.mod_two_eq_zero_or_one b with k | k <;> rw[h,k] <;> rfl
theorem zra (a b:Nat):T (a ^^^ b)=T a ^^^ T b:=by
 unfold T;rw[znC,zpR];rcases Nat.mod_two_eq_zero_or_one a with h | h <;> rcases Nat.mod_two_eq_zero_or_one b with k | k <;> simp[h,k]
 ·rw[Nat.xor_assoc]
 ·rw[Nat.xor_assoc,Nat.xor_assoc,Nat.xor_comm _ (b/2)]
 rw[show a/2 ^^^ 3988292384 ^^^ (b/2 ^^^ 3988292384)=(a/2 ^^^ b/2) ^^^ (3988292384 ^^^ 3988292384) by ac_rfl,Nat.xor_self,Nat.xor_zero]
theorem zqE (n a b:Nat):Tn n (a ^^^ b)=Tn n a ^^^ Tn n b:=by
 induction n generalizing a b with
 | zero=>rfl
 | succ n ih=>simp only[Tn];rw[zra,ih]
theorem zjq (n c:Nat):Tn (n+1) c=T (Tn n c):=by
 induction n generalizing c with
 | zero=>rfl
 | succ n ih=>show Tn (n+1) (T c)=_;rw[ih];rfl
theorem zrn {c:Nat} (h:c<2^32):T c<2^32:=by
 unfold T;exact Nat.xor_lt_two_pow (by omega) (by split <;> omega)
theorem zhc {n c:Nat} (h:c<2^32):Tn n c<2^32:=by
 induction n generalizing c with
 | zero=>exact h
 | succ n ih=>exact ih (zrn h)
theorem zqz (c:Nat):T (2*c)=c:=by unfold T;simp
theorem zpX (h:Nat):Tn 8 (256*h)=h:=by
 simp only[Tn];rw[show 256*h=2*(2*(2*(2*(2*(2*(2*(2*h))))))) by omega];simp only[zqz]
theorem zlh (c:Nat):c=(256*(c/256)) ^^^ (c%256):=by
 have h:=Nat.two_pow_add_eq_or_of_lt (i:=8) (b:=c%256) (Nat.mod_lt _ (by decide)) (c/256);apply Nat.eq_of_testBit_eq;intro i;rw[Nat.testBit_xor];have e1:(256*(c/256)).testBit i=(decide (8<=i)&&c.testBit i):=by
  rw[show (256:Nat)=2^8 from rfl,Nat.testBit_two_pow_mul,Nat.testBit_div_two_pow];by_cases hi:8<=i
  ·simp[hi]
  simp[hi]
 have e2:(c%256).testBit i=(decide (i<8)&&c.testBit i):=by
  rw[show (256:Nat)=2^8 from rfl,Nat.testBit_mod_two_pow]
 rw[e1,e2];by_cases hi:8<=i
 ·simp[hi,show ¬ i<8 by omega]
 simp[hi,show i<8 by omega]
theorem znB (c:Nat):Tn 8 c=Tn 8 (c%256) ^^^ (c/256):=by
 conv=>lhs;rw[zlh c]
 rw[zqE,zpX,Nat.xor_comm]
theorem zhZ (c b:Nat) (hb:b<256):(c ^^^ b)%256=(c%256) ^^^ b:=by
 rw[show (256:Nat)=2^8 from rfl,Nat.xor_mod_two_pow,Nat.mod_eq_of_lt (a:=b) hb]
theorem zhr (c b:Nat) (hb:b<256):(c ^^^ b)/256=c/256:=by
 rw[show (256:Nat)=2^8 from rfl,Nat.xor_div_two_pow,Nat.div_eq_of_lt (a:=b) hb,Nat.xor_zero]
def byte (c b:Nat):Nat:=Tn 8 (c ^^^ b)
theorem znA (c b:Nat) (hb:b<256):byte c b=Tn 8 (c%256 ^^^ b) ^^^ (c/256):=by
 unfold byte;rw[znB,zhZ c b hb,zhr c b hb]
theorem zoU {c b:Nat} (hc:c<2^32) (hb:b<256):byte c b<2^32:=zhc (Nat.xor_lt_two_pow hc (by omega))
def run (c:Nat) (l:List UInt8):Nat:=l.foldl (λ c b=>byte c b.toNat) c
theorem zid {c:Nat} (hc:c<2^32) (l:List UInt8):run c l<2^32:=by
 induction l generalizing c with
 | nil=>exact hc
 | cons b l ih=>exact ih (zoU hc b.toNat_lt)
def flip (c:Nat):Nat:=c ^^^ 4294967295
theorem zge {c:Nat} (hc:c<2^32):flip c<2^32:=Nat.xor_lt_two_pow hc (by omega)
def more (c:Nat) (l:List UInt8):Nat:=flip (run (flip c) l)
def crc (l:List UInt8):Nat:=more 0 l
end Crc
namespace Crc
def num:List UInt8->Nat
  | []=>0
  | b ::l=>b.toNat+256*num l
theorem zdz (b:UInt8) (l:List UInt8):num (b ::l)=b.toNat ^^^ (256*num l):=by
  have h:=zlh (num (b ::l));have hb:b.toNat<256:=b.toNat_lt;have e1:num (b ::l)/256=num l:=by show (b.toNat+256*num l)/256=_;omega
  have e2:num (b ::l)%256=b.toNat:=by show (b.toNat+256*num l)%256=_;omega
  rw[e1,e2,Nat.xor_comm] at h;exact h
theorem zqO (l:List UInt8):num l<2^(8*l.length):=by
  induction l with
  | nil=>simp[num]
  | cons b l ih=>
    have hb:b.toNat<256:=b.toNat_lt;rw[List.length_cons,show 8*(l.length+1)=8*l.length+8 by omega,Nat.pow_add];show b.toNat+256*num l<_;omega
theorem zjD:∀(l m:List UInt8),l.length=m.length->num l=num m->l=m
  | [],[],_,_=>rfl
  | [],_ ::_,h,_=>by simp at h
  | _ ::_,[],h,_=>by simp at h
  | a ::l,b ::m,h,e=>by
    have ha:a.toNat<256:=a.toNat_lt;have hb:b.toNat<256:=b.toNat_lt;have e':a.toNat+256*num l=b.toNat+256*num m:=e;have h1:a.toNat=b.toNat:=by omega
    have h2:num l=num m:=by omega
    rw[UInt8.toNat_inj.1 h1,zjD l m (by simpa using h) h2]
theorem zpa (l:List UInt8):∀(j:Nat) (c:UInt8),(hj:j<l.length)->num (l.set j c)=num l ^^^ ((l[j].toNat ^^^ c.toNat)*256^j):=by
  induction l with
  | nil=>intro j c hj;simp at hj
  | cons b l ih=>
    intro j c hj;cases j with
    | zero=>
      simp only[List.set_cons_zero,List.getElem_cons_zero,Nat.pow_zero,Nat.mul_one];rw[zdz,zdz,show b.toNat ^^^ 256*num l ^^^ (b.toNat ^^^ c.toNat)=(b.toNat ^^^ b.toNat) ^^^ (c.toNat ^^^ 256*num l) by ac_rfl,Nat.xor_self,Nat.zero_xor]
    | succ j=>
      simp only[List.set_cons_succ,List.getElem_cons_succ];rw[zdz,zdz,ih j c (by simpa using hj),Nat.xor_assoc];congr 1
      rw[show (256:Nat)=2^8 from rfl,Nat.mul_comm,Nat.mul_comm (2^8) (num l),<- Nat.shiftLeft_eq,<- Nat.shiftLeft_eq,Nat.shiftLeft_xor_distrib,Nat.shiftLeft_eq,Nat.shiftLeft_eq];congr 1
      rw[Nat.mul_assoc,<- Nat.pow_succ]
end Crc
namespace Go.Proofs.YthlibiocadimhaaGreatDoor
open Go.RowKit
def zad (l:List UInt8):List Value:=l.map λ b=>Value.int .u8 (b.toNat:Int)
structure WAt (w:World) (B o:Nat) (v:Value) (V n:Nat):Prop where
 c0:w.cell? ⟨B,o,none⟩=some v
 c1:w.cell? ⟨B,o+1,none⟩=some (.int .i64 (n:Int))
 f0:w.frozen? ⟨B,o,none⟩=false
 f1:w.frozen? ⟨B,o+1,none⟩=false
 row:∃l:List UInt8,l.length=(n+7)/8/\Crc.num l=V/\w.ownsRow 0 5 1 v l.length (zad l)
 apart:v.ownBlock≠some B
 lt:V<2^n
structure WStep (w w':World) (B o:Nat) (v v':Value):Prop where
 keeps:Keeps (λ k=>k=B\/v.ownBlock=some k) w w'
 cells:∀j,j≠o->j≠o+1->w'.cell? ⟨B,j,none⟩=w.cell? ⟨B,j,none⟩
 marks:∀j,w'.frozen? ⟨B,j,none⟩=w.frozen? ⟨B,j,none⟩
 new:∀k,v'.ownBlock=some k->v.ownBlock=some k\/w.heap.size<=k
theorem WStep.refl (w:World) (B o:Nat) (v:Value):WStep w w B o v v:=⟨Keeps.refl _ _,λ _ _ _=>rfl,λ _=>rfl,λ _ h=>.inl h⟩
theorem WStep.trans {a b c:World} {B o:Nat} {u v x:Value} (h:WStep a b B o u v) (k:WStep b c B o v x):WStep a c B o u x:=by
 refine⟨h.keeps.trans k.keeps ?_,λ j h1 h2=>(k.cells j h1 h2).trans (h.cells j h1 h2),λ j=>(k.marks j).trans (h.marks j),?_⟩
 ·intro i hi q;rcases q with q | q
  ·exact .inl q
  rcases h.new i q with r | r
  ·exact .inr r
  omega
 intro i q;rcases k.new i q with r | r
 ·exact h.new i r
 have:=h.keeps.size;exact .inr (by omega)
theorem zbx (l:List UInt8):(zad l).length=l.length:=by simp[zad]
theorem zaN (l:List UInt8) (j:Nat) (h:j<l.length):(zad l)[j]? =some (.int .u8 (l[j].toNat:Int)):=by simp[zad,h]
theorem zkD (l:List UInt8) (j:Nat) (c:UInt8):(zad l).set j (.int .u8 (c.toNat:Int))=zad (l.set j c):=by simp[zad,List.map_set]
theorem zfU (l:List UInt8):Crc.num (l ++ [0])=Crc.num l:=by
 induction l with
 | nil=>rfl
 | cons b l ih=>show b.toNat+256*Crc.num (l ++ [0])=_;rw[ih];rfl
theorem zjT (V n b:Nat) (hV:V<2^n):V ^^^ b*2^n=V+b*2^n:=by
 have h:=qcw (i:=n) (b:=V) hV b;have h2:V+b*2^n=V ||| b*2^n:=by rw[Nat.add_comm,qaJ,h,Nat.or_comm]
 rw[h2];apply Nat.eq_of_testBit_eq;intro i;rw[Nat.testBit_xor,Nat.testBit_or,qaJ,Nat.testBit_two_pow_mul];by_cases hi:n<=i
 ·rw[Nat.testBit_lt_two_pow (qaA hV (qaq (by decide) hi))];simp
 simp[hi]
theorem ze9 (l:List UInt8):∀(j:Nat) (h:j<l.length),l[j].toNat=Crc.num l/256^j%256:=by
 induction l with
 | nil=>intro j h;simp at h
 | cons b l ih=>
  intro j h;have hb:b.toNat<256:=b.toNat_lt;cases j with
  | zero=>show b.toNat=(b.toNat+256*Crc.num l)/1%256;omega
  | succ j=>
   simp only[qbf];rw[ih j (by simpa using h),qa1,qaJ,<- qbF];show _=(b.toNat+256*Crc.num l)/256/256^j%256;congr 2;omega
theorem zpZ (x b t:Nat) (hx:x<2^t) (hb:b<=1) (ht:t<8):∃c:UInt8,c.toNat=x ^^^ b*2^t/\bits BinOp.or IntKind.u8 (x:Int) (((b*2^t:Nat):Int))=(c.toNat:Int):=by
 have h2:2^t<=2^7:=qaq (by decide) (by omega);have h3:b*2^t<=2^t:=by
  rcases (show b=0\/b=1 by omega) with h | h <;> subst h <;> omega
 have hlt:x ^^^ b*2^t<2^8:=qci (by omega) (by omega);have hc:(UInt8.ofNat (x ^^^ b*2^t)).toNat=x ^^^ b*2^t:=by rw[qbI];exact qaF hlt
 refine⟨UInt8.ofNat (x ^^^ b*2^t),hc,?_⟩;rw[hc,u8_or_nat _ _ (by omega) (by omega),zjT x t b hx];have h:=qcw (i:=t) (b:=x) hx b;rw[show x+b*2^t=2^t*b+x by rw[qaJ,Nat.add_comm],h,qaJ,Nat.or_comm]
theorem zj8 (w:World) (B o g cap n V b:Nat) (l:List UInt8) (hl:l.length=n/8+1) (hV:Crc.num l=V) (hlt:V<2^n) (hb:b<=1) (hne:g≠B)
  (c0:w.cell? ⟨B,o,none⟩=some (.slice (some ⟨g,0,none⟩) l.length cap)) (c1:w.cell? ⟨B,o+1,none⟩=some (.int .i64 (n:Int))) (f0:w.frozen? ⟨B,o,none⟩=false) (f1:w.frozen? ⟨B,o+1,none⟩=false)
  (hown:w.ownsRow 0 5 1 (.slice (some ⟨g,0,none⟩) l.length cap) l.length (zad l)) (hj:l.length-1<l.length) (x:Int)
  (hx:x=bits BinOp.or IntKind.u8 ((l[l.length-1].toNat:Nat):Int) ((b:Int)*2^(n%8)%256)):
  WAt ((w.setCell ⟨g,l.length-1,none⟩ (.int .u8 x)).setCell ⟨B,o+1,none⟩ (.int .i64 ((n:Int)+1))).drew B o (.slice (some ⟨g,0,none⟩) l.length cap) (V+b*2^n) (n+1)/\
   WStep w ((w.setCell ⟨g,l.length-1,none⟩ (.int .u8 x)).setCell ⟨B,o+1,none⟩ (.int .i64 ((n:Int)+1))).drew B o (.slice (some ⟨g,0,none⟩) l.length cap) (.slice (some ⟨g,0,none⟩) l.length cap):=by
 have ht:n%8<8:=by omega
 have hsm:l[l.length-1].toNat<2^(n%8):=by
  rw[ze9 l _ hj];have e:n=8*(l.length-1)+n%8:=by omega
  have h2:Crc.num l/256^(l.length-1)<2^(n%8):=by
   rw[show (256:Nat)=2^8 from rfl,<- Nat.pow_mul];refine Nat.div_lt_of_lt_mul ?_;rw[<- qbY,<- e,hV];exact hlt
  exact qct (Nat.mod_le _ _) h2
 obtain⟨c,hc1,hc2⟩:=zpZ l[l.length-1].toNat b (n%8) hsm hb ht;have hpow:2^(n%8)<=2^7:=qaq (by decide) (by omega);have hm:(b:Int)*2^(n%8)%256=((b*2^(n%8):Nat):Int):=by
  have h3:b*2^(n%8)<256:=by
   rcases (show b=0\/b=1 by omega) with h | h <;> subst h <;> omega
  rw[show (b:Int)*2^(n%8)=((b*2^(n%8):Nat):Int) by simp];omega
 rw[hm,hc2] at hx;subst hx;obtain⟨st1,st2⟩:=hown.stored (l.length-1) (.int .u8 (c.toNat:Int));rw[zkD] at st1;have a1:(⟨g,l.length-1,none⟩:Addr)≠⟨B,o,none⟩:=by intro e;injection e with e1;exact hne e1
 have a2:(⟨g,l.length-1,none⟩:Addr)≠⟨B,o+1,none⟩:=by intro e;injection e with e1;exact hne e1
 have a3:(⟨B,o+1,none⟩:Addr)≠⟨B,o,none⟩:=by intro e;injection e with _ e2;omega
 have d0:=(qah w _ _ (.int .u8 (c.toNat:Int)) a1).trans c0;have d1:=(qah w _ _ (.int .u8 (c.toNat:Int)) a2).trans c1;refine⟨⟨?_,?_,?_,?_,⟨l.set (l.length-1) c,?_,?_,?_⟩,?_,?_⟩,⟨?_,?_,?_,?_⟩⟩
 ·exact (qah _ _ _ _ a3).trans d0
 ·exact qa0 _ _ _ d1
 ·show World.frozen? (World.setCell _ _ _) _=_;rw[qap,qap];exact f0
 ·show World.frozen? (World.setCell _ _ _) _=_;rw[qap,qap];exact f1
 ·rw[qcF];omega
 ·have e1:l[l.length-1].toNat ^^^ c.toNat=b*2^(n%8):=by rw[hc1,<- Nat.xor_assoc,Nat.xor_self,Nat.zero_xor]
  rw[Crc.zpa l _ c hj,e1,hV,qbr,show (256:Nat)=2^8 from rfl,<- Nat.pow_mul,<- qbY,show n%8+8*(l.length-1)=n by omega,zjT V n b hlt]
 ·rw[qcF];exact qaI st1 (by intro e;exact hne (qb6 e)) _
 ·intro e;exact hne (qb6 e)
 ·rw[qa1];rcases (show b=0\/b=1 by omega) with h | h <;> subst h <;> omega
 ·exact ((Keeps.refl _ w).setCell (.inl (.inr rfl)) _ |>.setCell (.inl (.inl rfl)) _).drew
 ·intro j h1 h2;have b1:(⟨B,o+1,none⟩:Addr)≠⟨B,j,none⟩:=by intro e;injection e with _ e2;exact h2 e2.symm
  have b2:(⟨g,l.length-1,none⟩:Addr)≠⟨B,j,none⟩:=by intro e;injection e with e1;exact hne e1
  exact (qah _ _ _ _ b1).trans (qah _ _ _ _ b2)
 ·intro j;show World.frozen? (World.setCell _ _ _) _=_;rw[qap,qap]
 intro k hk;exact .inl hk
theorem zlg:(Tryz.prog.info? 5).map (λ i=>(i.zero,i.size,i.bytes))=some (some (.int .u8 0),1,1):=by kernel_rfl
set_option maxRecDepth 100000 in
set_option maxHeartbeats 1000000 in
theorem zqT (B o n V b:Nat) (v:Value) (w:World) (hW:WAt w B o v V n) (hb:b<=1) (hn:n<1099511627776) (h8:n%8≠0):
  Calls Tryz.prog 144 #[.pointer (some ⟨B,o,none⟩),.int .u32 (b:Int)] w λ e w'=>e=.returned (.tuple #[])/\∃v',WAt w' B o v' (V+b*2^n) (n+1)/\WStep w w' B o v v':=by
 obtain⟨c0,c1,f0,f1,⟨l,hl,hV,hown⟩,hap,hlt⟩:=hW;have hpos:0<l.length:=by omega
 obtain⟨g,cap,rfl,hcap,hg⟩:=zaw hown hpos;have hj:l.length-1<l.length:=by omega
 have hcell:w.cell? ⟨g,l.length-1,none⟩=some (.int .u8 (l[l.length-1].toNat:Int)):=by
  rw[hown.cellAt _ (by omega),zaN l _ hj]
 have hfr:=hown.frozenAt (l.length-1);have hne:g≠B:=λ e=>hap (by rw[e];rfl);have hq:((n:Int)%8 ==0)=false:=by rw[qak];omega
 have H8:=Hd h8;have HL:=Hd hl;have HV:=Hd hV;have hlen:(l.length:Int)<=1099511627776:=by omega
 have hlen1:(1:Int)<=(l.length:Int):=by omega
 clear h8 hl hV;go_enter Tryz.func144,Tryz.ntmps144
 go_wp2
 go_region;go_wp2
 go_end0;refine⟨rfl,.slice (some ⟨g,0,none⟩) l.length cap,?_⟩;exact zj8 w B o g cap n V b l (by have:=HL.out;have:=H8.out;omega) HV.out hlt hb hne c0 c1 f0 f1 hown hj _ rfl
set_option maxRecDepth 100000 in
set_option maxHeartbeats 1000000 in
theorem zpL (B o n V b:Nat) (v:Value) (w:World) (hW:WAt w B o v V n) (hb:b<=1) (hn:n<1099511627776) (h8:n%8=0):
  Calls Tryz.prog 144 #[.pointer (some ⟨B,o,none⟩),.int .u32 (b:Int)] w λ e w'=>e=.returned (.tuple #[])/\∃v',WAt w' B o v' (V+b*2^n) (n+1)/\WStep w w' B o v v':=by
 obtain⟨c0,c1,f0,f1,⟨l,hl,hV,hown⟩,hap,hlt⟩:=hW;have hB:B<w.heap.size:=qab w _ c0;have hq:((n:Int)%8 ==0)=true:=by rw[qbl];omega
 obtain⟨i0,hi,hz0,hz1,hz2⟩:=qbb zlg;have H8:=Hd h8;have HL:=Hd hl;have HV:=Hd hV;have hlen:l.length<=1099511627776:=by omega
 clear h8 hl hV;go_enter Tryz.func144,Tryz.ntmps144
 go_wp2_with (at_builtin;refine apA (hown.alloc _) [.int .u8 0] ?_);intro v' w' hown' hgrow _ hat;have K:Keeps (λ k=>v.ownBlock=some k) w w':=((Keeps.refl _ w).alloc _).trans (Keeps.grown hgrow) (λ _ _ q=>q);have hsz:w.heap.size+1<=w'.heap.size:=by have:=hgrow.size;simpa using this
 have e0:w'.cell? ⟨B,o,none⟩=some v:=(K.cell hB hap).trans c0;have e1:w'.cell? ⟨B,o+1,none⟩=some (.int .i64 (n:Int)):=(K.cell hB hap).trans c1;have z0:w'.frozen? ⟨B,o,none⟩=false:=(K.frozen hB hap).trans f0;have z1:w'.frozen? ⟨B,o+1,none⟩=false:=(K.frozen hB hap).trans f1;have hnew:∀k,v'.ownBlock=some k->v.ownBlock=some k\/w.heap.size<=k:=by
  intro k hk;rcases hat with q | q
  ·rw[q] at hk;exact .inl hk
  rw[q] at hk;injection hk with hk;have:w.heap.size<=(w.alloc (.cells #[.int .u8 0] 5)).heap.size:=by simp
  exact .inr (by omega)
 have hap':v'.ownBlock≠some B:=λ e=>by rcases hnew B e with q | q;exact hap q;omega
 have hown2:w'.ownsRow 0 5 1 v' (l ++ [0]).length (zad (l ++ [0])):=by
  have q:=hown';simp only[zad,qbs,qaa] at q⊢;exact q
 obtain⟨g,cap,hv,hcap,hg⟩:=zaw hown2 (by simp);have HP:Hid (w'.ownsRow 0 5 1 v' (l ++ [0]).length (zad (l ++ [0]))/\v'.ownBlock≠some B/\∀k,v'.ownBlock=some k->v.ownBlock=some k\/w.heap.size<=k):=⟨hown2,hap',hnew⟩;have ST:WStep w (w'.setCell ⟨B,o,none⟩ v') B o v v':=by
  refine⟨(K.mono λ _ _ q=>.inr q).setCell (.inl (.inl rfl)) _,?_,?_,hnew⟩
  ·intro j h1 h2;refine (qah _ _ _ _ (by intro e;injection e with _ e2;exact h1 e2.symm)).trans (K.cell hB hap)
  intro j;rw[qap];exact K.frozen hB hap
 have HST:=Hd ST;clear ST;clear hown' hgrow hown2 hap' hnew hat K c0 c1 f0 f1;rw[hv] at HP HST⊢;clear hv;obtain⟨hown3,hap3,hnew3⟩:=HP.out;have hne:g≠B:=λ e=>hap3 (by rw[e];rfl);have eL:(l ++ [0]).length=l.length+1:=by simp
 rw[eL] at hown3 HST;go_wp2
 have a1:(⟨B,o,none⟩:Addr)≠⟨B,o+1,none⟩:=by intro e;injection e with _ e2;omega
 have y0:(w'.setCell ⟨B,o,none⟩ (.slice (some ⟨g,0,none⟩) (l.length+1) cap)).cell? ⟨B,o,none⟩=some (.slice (some ⟨g,0,none⟩) (l.length+1) cap):=qa0 _ _ _ e0;have y1:(w'.setCell ⟨B,o,none⟩ (.slice (some ⟨g,0,none⟩) (l.length+1) cap)).cell? ⟨B,o+1,none⟩=some (.int .i64 (n:Int)):=(qah _ _ _ _ a1).trans e1;have x0:(w'.setCell ⟨B,o,none⟩ (.slice (some ⟨g,0,none⟩) (l.length+1) cap)).frozen? ⟨B,o,none⟩=false:=by rw[qap];exact z0
 have x1:(w'.setCell ⟨B,o,none⟩ (.slice (some ⟨g,0,none⟩) (l.length+1) cap)).frozen? ⟨B,o+1,none⟩=false:=by rw[qap];exact z1
 have hown4:(w'.setCell ⟨B,o,none⟩ (.slice (some ⟨g,0,none⟩) (l.length+1) cap)).ownsRow 0 5 1 (.slice (some ⟨g,0,none⟩) (l.length+1) cap) (l.length+1) (zad (l ++ [0])):=qaI hown3 (by intro e;exact hne (qb6 e)) _;clear a1 e0 e1 z0 z1 hown3 hsz;generalize (w'.setCell ⟨B,o,none⟩ (.slice (some ⟨g,0,none⟩) (l.length+1) cap))=w2 at *;have hj:l.length<(l ++ [0]).length:=by omega
 have hcell:w2.cell? ⟨g,l.length,none⟩=some (.int .u8 ((l ++ [0])[l.length].toNat:Int)):=by
  rw[hown4.cellAt _ (by omega),zaN (l ++ [0]) _ hj]
 have hfr:=hown4.frozenAt l.length;have hlenI:(l.length:Int)<=1099511627776:=by omega
 have HE:=Hd eL;clear eL;go_wp2
 go_region;go_wp2
 go_end0;refine⟨rfl,.slice (some ⟨g,0,none⟩) (l.length+1) cap,?_⟩;have q:=zj8 w2 B o g cap n V b (l ++ [0]) (by rw[HE.out,HL.out];have:=H8.out;omega) (by rw[zfU];exact HV.out) hlt hb hne (by rw[HE.out];exact y0) y1 x0 x1 (by rw[HE.out];exact hown4) (by rw[HE.out];omega)
  (bits BinOp.or IntKind.u8 0 ((b:Int)*2^(n%8)%256)) (by simp)
 simp only[HE.out,qaX] at q;exact⟨q.1,HST.out.trans q.2⟩
theorem zgX (B o n V b:Nat) (v:Value) (w:World) (hW:WAt w B o v V n) (hb:b<=1) (hn:n<1099511627776):
  Calls Tryz.prog 144 #[.pointer (some ⟨B,o,none⟩),.int .u32 (b:Int)] w λ e w'=>e=.returned (.tuple #[])/\∃v',WAt w' B o v' (V+b*2^n) (n+1)/\WStep w w' B o v v':=by
 by_cases h:n%8=0
 ·exact zpL B o n V b v w hW hb hn h
 exact zqT B o n V b v w hW hb hn h
end Go.Proofs.YthlibiocadimhaaGreatDoor
namespace Bts
def ch (b:Bool):UInt8:=if b then 49 else 48
def str (L:List Bool):List UInt8:=L.map ch
def val:List Bool->Nat
 | []=>0
 | b ::L=>(if b then 1 else 0)+2*val L
theorem zfG (L:List Bool):(str L).length=L.length:=by simp[str]
theorem zfR (L M:List Bool):str (L++M)=str L++str M:=by simp[str]
theorem zbj (L M:List Bool):val (L++M)=val L+val M*2^L.length:=by
 induction L with
 | nil=>simp[val]
 | cons b L ih=>
  simp only[List.cons_append,val,ih,List.length_cons,Nat.pow_succ];rw[Nat.mul_add,Nat.mul_comm 2 (val M*2^L.length),Nat.mul_assoc];omega
theorem zcy (L:List Bool):val L<2^L.length:=by
 induction L with
 | nil=>decide
 | cons b L ih=>simp only[val,List.length_cons,Nat.pow_succ];split <;> omega
theorem znX (L:List Bool) (b:Bool):val (L ++ [b])=val L+(if b then 1 else 0)*2^L.length:=by
 rw[zbj];simp[val]
def low (x:Nat):Nat->List Bool
 | 0=> []
 | k+1=>low x k ++ [x/2^k%2 ==1]
def high (x:Nat):Nat->List Bool
 | 0=> []
 | k+1=>(x/2^k%2 ==1) ::high x k
theorem zat (x k:Nat):(low x k).length=k:=by induction k with | zero=>rfl | succ k ih=>simp[low,ih]
theorem zaD (x k:Nat):(high x k).length=k:=by induction k with | zero=>rfl | succ k ih=>simp[high,ih]
theorem zgl (y:Nat):(if (y%2 ==1)=true then 1 else 0)=y%2:=by
 rcases Nat.mod_two_eq_zero_or_one y with h | h <;> simp[h]
theorem zgg (x k:Nat):val (low x k)=x%2^k:=by
 induction k with
 | zero=>simp[low,val,Nat.mod_one]
 | succ k ih=>rw[low,znX,ih,zat,zgl,Nat.pow_succ,Nat.mod_mul,Nat.mul_comm (2^k)]
theorem zby (x k:Nat):val (high x (k+1))=x/2^k%2+2*val (high x k):=by
 simp only[high,val];rw[zgl]
theorem zhN (b:Bool):(ch b).toNat=48+(if b then 1 else 0):=by cases b <;> rfl
theorem zpu {L M:List Bool} (h:str L=str M):L=M:=by
 induction L generalizing M with
 | nil=>cases M with | nil=>rfl | cons _ _=>simp[str] at h
 | cons b L ih=>cases M with
  | nil=>simp[str] at h
  | cons c M=>
   simp only[str,List.map_cons,List.cons.injEq] at h;have e:b=c:=by cases b <;> cases c <;> first | rfl | (have:=h.1;revert this;decide)
   rw[e,ih h.2]
theorem zgf:∀ {L M:List Bool},L.length=M.length->val L=val M->L=M
 | [],[],_,_=>rfl
 | [],_ ::_,h,_=>by simp at h
 | _ ::_,[],h,_=>by simp at h
 | b ::L,c ::M,h,e=>by
  simp only[val] at e;have e2:b=c:=by cases b <;> cases c <;> simp at e⊢<;> omega
  subst e2;have e3:L=M:=zgf (by simpa using h) (by omega);rw[e3]
theorem znF (L:List Bool) (k:Nat):val (L.take k)=val L%2^k:=by
 rcases Nat.lt_or_ge L.length k with h | h
 ·have q:val L<2^k:=Nat.lt_of_lt_of_le (zcy L) (Nat.pow_le_pow_right (by decide) (by omega));rw[List.take_of_length_le (by omega),Nat.mod_eq_of_lt q]
 have e:=zbj (L.take k) (L.drop k);have q:=zcy (L.take k);rw[List.length_take,Nat.min_eq_left h] at q;rw[List.take_append_drop,List.length_take,Nat.min_eq_left h] at e;rw[e,Nat.add_mul_mod_self_right,Nat.mod_eq_of_lt q]
theorem znM (L:List Bool) (k:Nat):val (L.drop k)=val L/2^k:=by
 rcases Nat.lt_or_ge L.length k with h | h
 ·have q:val L<2^k:=Nat.lt_of_lt_of_le (zcy L) (Nat.pow_le_pow_right (by decide) (by omega));rw[List.drop_of_length_le (by omega),Nat.div_eq_of_lt q];rfl
 have e:=zbj (L.take k) (L.drop k);have q:=zcy (L.take k);rw[List.length_take,Nat.min_eq_left h] at q;rw[List.take_append_drop,List.length_take,Nat.min_eq_left h] at e;rw[e,Nat.add_mul_div_right _ _ (Nat.two_pow_pos _),Nat.div_eq_of_lt q,Nat.zero_add]
def allB:List UInt8->List Bool
 | []=> []
 | b ::l=>low b.toNat 8++allB l
theorem zbK (l:List UInt8):(allB l).length=8*l.length:=by
 induction l with
 | nil=>rfl
 | cons b l ih=>simp only[allB,List.length_append,zat,ih,List.length_cons];omega
theorem zi9 (l m:List UInt8):allB (l++m)=allB l++allB m:=by
 induction l with
 | nil=>rfl
 | cons b l ih=>simp only[List.cons_append,allB,ih,List.append_assoc]
end Bts
namespace Go.Proofs.YthlibiocadimhaaGreatDoor
open Go.RowKit
theorem zcf (k:Nat) (hk:k<256) (w:World):Calls Tryz.prog 45 #[.int .i64 (k:Int)] w λ e w'=>e=.returned (.string ⟨#[UInt8.ofNat k]⟩)/\Ext w w':=by
  have hcr:(convert 62 9 (.slice (some ⟨w.heap.size,0,none⟩) 1 1)).run Tryz.prog (w.alloc (.cells #[.int .u8 (k:Int)] 5))=.ok (.string ⟨#[UInt8.ofNat k]⟩) (w.alloc (.cells #[.int .u8 (k:Int)] 5)):=by
    refine qbt (P:=Tryz.prog) (w.alloc (.cells #[.int .u8 (k:Int)] 5)) 62 9 5 ⟨w.heap.size,0,none⟩ 1 [UInt8.ofNat k] Tryz.underlying62 Tryz.underlying5 Tryz.underlying9 (λ j hj=>?_);obtain rfl:j=0:=by simpa using hj
    rw[zae];simp;omega
  go_enter Tryz.func45,Tryz.ntmps45
  go_wp2_with fail;go_ret;exact⟨rfl,(Ext.refl _).alloc _⟩
@[irreducible] def bs (L:List Bool):ByteArray:=⟨(Bts.str L).toArray⟩
theorem zbh (L:List Bool):(bs L).data.toList=Bts.str L:=by unfold bs;rfl
theorem zb2 (L:List Bool):(bs L).size=L.length:=by show (bs L).data.size=_;rw[<- qcq,zbh,Bts.zfG]
theorem zbe {a b:ByteArray} (h:a.data.toList=b.data.toList):a=b:=by
  obtain⟨⟨a⟩⟩:=a;obtain⟨⟨b⟩⟩:=b;simp at h;rw[h]
theorem zc3 (a b:ByteArray):(a++b).data.toList=a.data.toList++b.data.toList:=by simp
theorem zlW (L M:List Bool):bs L++bs M=bs (L++M):=zbe (by rw[zc3,zbh,zbh,zbh,Bts.zfR])
theorem zq3 (b:Bool):(⟨#[Bts.ch b]⟩:ByteArray)=bs [b]:=zbe (by rw[zbh];rfl)
theorem zl3:ByteArray.empty=bs []:=zbe (by rw[zbh];rfl)
theorem zrb (y:Nat):UInt8.ofNat (48+y%2)=Bts.ch (y%2 ==1):=by
  rcases qbT y with h | h <;> rw[h] <;> rfl
theorem zpE (y:Nat) (w:World):Calls Tryz.prog 45 #[.int .i64 (48+(y:Int)%2)] w λ e w'=>e=.returned (.string (bs [y%2 ==1]))/\Ext w w':=by
  have h:=zcf (48+y%2) (by omega) w;rw[zrb,zq3] at h;rw[show (48+(y:Int)%2)=((48+y%2:Nat):Int) by omega];exact h
theorem Ybq0 {p:Prop} (h:p:=by
 go_wp2
 go_ret;exact⟨zaG (by symm;simp only[Bool.and_eq_false_iff,decide_eq_false_iff_not];omega),rfl⟩):p:=h
theorem Ybq1 {p:Prop} (h:p:=by
 go_enter Tryz.func123,Tryz.ntmps123
 go_wp2
 go_ret;exact⟨⟨l,HL.out,HV.out,rfl⟩,rfl⟩):p:=h
theorem zfD (x:Nat) (width:Int) (w:World) (hw1: -9223372036854775808<=width) (hw2:width<=9223372036854775807) (hx:x<4294967296):
  Calls Tryz.prog 143 #[.int .u32 (x:Int),.int .i64 width] w λ e w'=>e=.returned (.bool (decide (0<=width/\width<=32/\x<2^width.toNat)))/\w=w':=by
 by_cases h1:0<=width
 ·by_cases h2:width<=32
  ·obtain⟨k,rfl⟩:∃k:Nat,width=k:=⟨width.toNat,by omega⟩;have hk:k<=32:=by omega
   go_enter Tryz.func143,Tryz.ntmps143
   go_wp2
   go_ret;refine⟨zaG ?_,rfl⟩;rw[qbX,qbl,qaP];simp only[qbm];rw[show ((x:Int)/2^k)=((x/2^k:Nat):Int) by simp];constructor
   ·intro h;have h':x/2^k=0:=by omega
    rcases (Nat.div_eq_zero_iff).1 h' with q | q
    ·have:=qbN k;omega
    exact⟨by omega,by omega,q⟩
   intro h;rw[qcr h.2.2];rfl
  go_enter Tryz.func143,Tryz.ntmps143
  exact Ybq0
 go_enter Tryz.func143,Tryz.ntmps143
 exact Ybq0
theorem zjz (x i:Nat) (hx:x/2^i<4294967296):bits BinOp.and IntKind.u32 ((x:Int)/2^i) 1=((x/2^i%2:Nat):Int):=by
 rw[show (x:Int)/2^i=((x/2^i:Nat):Int) by simp,show (1:Int)=((1:Nat):Int) from rfl,u32_and_nat _ _ hx (by decide),Nat.and_one_is_mod]
theorem zhL (x i:Nat):x%2^(i+1)=x%2^i+x/2^i%2*2^i:=by
 rw[qa1,Nat.mod_mul,qaJ (2^i)]
theorem zcM (B o n V x k:Nat) (v:Value) (w:World) (hW:WAt w B o v V n) (hk:k<=32) (hx:x<2^k) (hn:n+32<1099511627776):
  Calls Tryz.prog 120 #[.pointer (some ⟨B,o,none⟩),.int .u32 (x:Int),.int .i64 (k:Int)] w λ e w'=>e=.returned .nilIface/\∃v',WAt w' B o v' (V+x*2^n) (n+k)/\WStep w w' B o v v':=by
 have hx32:x<4294967296:=qaA hx (qaq (n:=2) (by decide) hk);have hfit:decide (0<=(k:Int)/\(k:Int)<=32/\x<2^(k:Int).toNat)=true:=by rw[qaP];exact⟨by omega,by omega,by simpa using hx⟩
 have HX:=Hd hx;have HW:=Hd hW;have HF:=Hd hfit;clear hx hW hfit;go_enter Tryz.func120,Tryz.ntmps120
 go_wp2_with fail;refine (zfD x k _ (by omega) (by omega) hx32).mono ?_;rintro e w1 ⟨he,rfl⟩;rw[HF.out] at he;subst he;go_wp2_with fail;go_loopw [7,14] (λ _ c wr=>∃(i:Nat) (u:Value),i<=k/\c=.int .i64 i/\Hid (WAt wr B o u (V+x%2^i*2^n) (n+i))/\Hid (WStep w wr B o v u)) (λ _ c _=>k-(intOf c).toNat)
 case atStart=>
  refine⟨0,v,by omega,rfl,?_,Hd (WStep.refl _ _ _ _)⟩;have q:=HW.out;show WAt _ _ _ _ _ _;simpa [qcI] using q
 case round=>
  obtain⟨i,u,hi,rfl,HA,HS⟩:=hrel;by_cases hlt:i<k
  ·go_wp2_with fail;rw[zjz x i (qct (qcy _ _) hx32)];refine (zgX B o (n+i) _ _ u _ HA.out (by omega) (by omega)).mono ?_;rintro e w2 ⟨rfl,u2,hA2,hS2⟩;have HA2:=Hd hA2;have HS2:=Hd (HS.out.trans hS2);clear hA2 hS2 HA HS;go_wp2_with fail;go_roundw
   case rel=>
    refine⟨i+1,u2,by omega,by go_num,?_,HS2⟩;show WAt _ _ _ _ _ _;have e1:V+x%2^(i+1)*2^n=V+x%2^i*2^n+x/2^i%2*2^(n+i):=by
     rw[zhL,qbZ,qbY,qbr (x/2^i%2),qaJ (2^i) (2^n),qa6]
    rw[e1];exact HA2.out
   case measure=>simp[intOf];omega
  obtain rfl:i=k:=by omega
  go_wp2_with fail;go_ret;refine⟨rfl,u,?_,HS.out⟩;have q:=HA.out;rwa [qaF HX.out] at q
theorem zdP (B o n V:Nat) (v:Value) (w:World) (hW:WAt w B o v V n):
  Calls Tryz.prog 123 #[.pointer (some ⟨B,o,none⟩)] w λ e w'=>(∃l:List UInt8,l.length=(n+7)/8/\Crc.num l=V/\e=.returned (.string ⟨l.toArray⟩))/\w=w':=by
 obtain⟨c0,c1,f0,f1,⟨l,hl,hV,hown⟩,hap,hlt⟩:=hW;rcases zah hown with⟨rfl,h0⟩ | ⟨g,cap,rfl⟩
 ·have hcr:(convert 62 9 (.slice none 0 0)).run Tryz.prog w=.ok (.string ⟨l.toArray⟩) w:=by
   obtain rfl:=qav h0;rw[qcB w 62 9 5 none 0 0 Tryz.underlying62 Tryz.underlying5 Tryz.underlying9];rfl
  have HL:=Hd hl;have HV:=Hd hV;clear hl hV h0;exact Ybq1
 have hcr:(convert 62 9 (.slice (some ⟨g,0,none⟩) l.length cap)).run Tryz.prog w=.ok (.string ⟨l.toArray⟩) w:=by
  refine qbt (P:=Tryz.prog) w 62 9 5 ⟨g,0,none⟩ _ l Tryz.underlying62 Tryz.underlying5 Tryz.underlying9 (λ j hj=>?_);rw[zae,hown.cellAt _ (by omega),zaN l _ hj]
 have HL:=Hd hl;have HV:=Hd hV;clear hl hV;exact Ybq1
structure RAt (w:World) (B o:Nat) (s:ByteArray) (a:Nat):Prop where
 c0:w.cell? ⟨B,o,none⟩=some (.string s)
 c1:w.cell? ⟨B,o+1,none⟩=some (.int .i64 (a:Int))
 f1:w.frozen? ⟨B,o+1,none⟩=false
 size:s.size<=1099511627776
 le:a<=8*s.size+8
structure RStep (w w':World) (B o:Nat):Prop where
 keeps:Keeps (λ k=>k=B) w w'
 cells:∀j,j≠o+1->w'.cell? ⟨B,j,none⟩=w.cell? ⟨B,j,none⟩
 marks:∀j,w'.frozen? ⟨B,j,none⟩=w.frozen? ⟨B,j,none⟩
theorem RStep.refl (w:World) (B o:Nat):RStep w w B o:=⟨Keeps.refl _ _,λ _ _=>rfl,λ _=>rfl⟩
theorem RStep.trans {a b c:World} {B o:Nat} (h:RStep a b B o) (k:RStep b c B o):RStep a c B o:=
 ⟨h.keeps.trans k.keeps λ _ _ q=>q,λ j h1=>(k.cells j h1).trans (h.cells j h1),λ j=>(k.marks j).trans (h.marks j)⟩
theorem RAt.drewN {w:World} {B o a:Nat} {s:ByteArray} (h:RAt w B o s a) (m:Nat):RAt (w.drewN m) B o s a:=⟨h.c0,h.c1,h.f1,h.size,h.le⟩
theorem RStep.drewN {w w':World} {B o:Nat} (h:RStep w w' B o) (m:Nat):RStep w (w'.drewN m) B o:=⟨h.keeps.drewN m,h.cells,h.marks⟩
theorem RAt.put {w:World} {B o a:Nat} {s:ByteArray} (h:RAt w B o s a) (a':Nat) (h':a'<=8*s.size+8):
  RAt (w.setCell ⟨B,o+1,none⟩ (.int .i64 (a':Int))) B o s a'/\RStep w (w.setCell ⟨B,o+1,none⟩ (.int .i64 (a':Int))) B o:=by
 have a3:(⟨B,o+1,none⟩:Addr)≠⟨B,o,none⟩:=by intro e;injection e with _ e2;omega
 refine⟨⟨(qah _ _ _ _ a3).trans h.c0,qa0 _ _ _ h.c1,?_,h.size,h'⟩,⟨(Keeps.refl (λ k=>k=B) w).setCell (.inl rfl) _,?_,?_⟩⟩
 ·rw[qap];exact h.f1
 ·intro j h2;exact qah _ _ _ _ (by intro e;injection e with _ e2;exact h2 e2.symm)
 intro j;rw[qap]
theorem zcF (B o a:Nat) (s:ByteArray) (w:World) (hR:RAt w B o s a):
  Calls Tryz.prog 182 #[.pointer (some ⟨B,o,none⟩)] w λ e w'=>e=.returned (.int .i64 (8*(s.size:Int)-a))/\∃m,w'=w.drewN m:=by
 obtain⟨c0,c1,f1,hs,hle⟩:=hR;go_enter Tryz.func182,Tryz.ntmps182
 go_wp2
 go_quiet (fail)
 go_wp2
 go_ret;exact⟨rfl,_,rfl⟩
theorem zhk (B o a:Nat) (s:ByteArray) (w:World) (hR:RAt w B o s a):
  Calls Tryz.prog 137 #[.pointer (some ⟨B,o,none⟩)] w λ e w'=>e=.returned (.int .i64 (a:Int))/\w=w':=by
 obtain⟨c0,c1,f1,hs,hle⟩:=hR;go_enter Tryz.func137,Tryz.ntmps137
 go_wp2
 go_ret;exact⟨rfl,rfl⟩
theorem zfO (s:ByteArray) (w:World) (hs:s.size<=1099511627776):
  Calls Tryz.prog 134 #[.string s] w λ e w'=>e=.returned (.pointer (some ⟨w.heap.size,0,none⟩))/\RAt w' w.heap.size 0 s 0/\Ext w w':=by
 go_enter Tryz.func134,Tryz.ntmps134
 go_wp2
 go_ret;refine⟨rfl,⟨?_,?_,?_,hs,by omega⟩,?_⟩
 ·rw[qaV _ _ _ _ rfl];rfl
 ·rw[qaV _ _ _ _ rfl];rfl
 ·rw[qbE _ _ _ _ rfl]
 exact ((qco _ _).alloc (qaj _) _)
theorem zn7 (l:List UInt8) (p:Nat) (hj:p/8<l.length):l[p/8].toNat/2^(p%8)%2=Crc.num l/2^p%2:=by
 rw[ze9 l (p/8) hj,show (256:Nat)^(p/8)=2^(8*(p/8)) by rw[Nat.pow_mul],show (256:Nat)=2^8 from rfl];have h:∀x:Nat,x%2^8/2^(p%8)%2=x/2^(p%8)%2:=by
  intro x;have h1:(x%2^8).testBit (p%8)=x.testBit (p%8):=by
   rw[Nat.testBit_mod_two_pow];have:p%8<8:=by omega
   simp[this]
  rw[qcG,qcG,decide_eq_decide] at h1;omega
 rw[h,qbF,<- qbY,show 8*(p/8)+p%8=p by omega]
theorem zon (N a i y t:Nat) (hi:i<32) (hy:y<256) (hb:y/2^t%2=N/2^(a+i)%2):
  bits BinOp.or IntKind.u32 ((N:Int)/2^a%2^i) (bits BinOp.and IntKind.u8 ((y:Int)/2^t) 1%4294967296*2^i%4294967296)=((N/2^a%2^(i+1):Nat):Int):=by
 have hp:2^i<=2^31:=qaq (by decide) (by omega);have e1:bits BinOp.and IntKind.u8 ((y:Int)/2^t) 1=((y/2^t%2:Nat):Int):=by
  have:y/2^t<256:=qct (qcy _ _) hy;rw[show (y:Int)/2^t=((y/2^t:Nat):Int) by simp,show (1:Int)=((1:Nat):Int) from rfl,u8_and_nat _ _ this (by decide),Nat.and_one_is_mod]
 rw[e1,hb];have e2:((N/2^(a+i)%2:Nat):Int)%4294967296*2^i%4294967296=((N/2^a/2^i%2*2^i:Nat):Int):=by
  rw[qbF,<- qbY];have hb2:N/2^(a+i)%2<2:=qbV _ (by decide);generalize N/2^(a+i)%2=b at *;rw[show (2:Int)^i=((2^i:Nat):Int) by simp];generalize 2^i=q at *;rcases (show b=0\/b=1 by omega) with h | h <;> subst h <;> omega
 have hm:N/2^a%2^i<2^i:=qbV _ (qbN i);rw[e2,show (N:Int)/2^a%2^i=((N/2^a%2^i:Nat):Int) by simp,zhL];generalize N/2^a=A at *;have hb2:A/2^i%2<2:=qbV _ (by decide);have hB:A/2^i%2*2^i<=2^i:=by
  generalize A/2^i%2=b at *;rcases (show b=0\/b=1 by omega) with h | h <;> subst h <;> omega
 rw[u32_or_nat _ _ (by omega) (by omega)];have h:=qcw (i:=i) (b:=A%2^i) hm (A/2^i%2);rw[qaJ] at h;rw[Nat.or_comm,<- h,Nat.add_comm]
theorem zmk (B o a k:Nat) (s:ByteArray) (w:World) (hR:RAt w B o s a) (hk:k<=32) (ha:a+k<=8*s.size):
  Calls Tryz.prog 172 #[.pointer (some ⟨B,o,none⟩),.int .i64 (k:Int)] w λ e w'=>e=.returned (.tuple #[.int .u32 ((Crc.num s.data.toList/2^a%2^k:Nat):Int),.nilIface])/\RAt w' B o s (a+k)/\RStep w w' B o:=by
 have hle:=hR.le;have hs:=hR.size;have HR:=Hd hR;clear hR;go_enter Tryz.func172,Tryz.ntmps172
 go_wp2_with fail;refine (zcF B o a s _ HR.out).mono ?_;rintro e w1 ⟨rfl,m,rfl⟩;go_wp2_with fail;go_loopw [6,7,21] (λ x _ c wr=>∃(i:Nat),i<=k/\x=.int .u32 ((Crc.num s.data.toList/2^a%2^i:Nat):Int)/\c=.int .i64 i/\Hid (RAt wr B o s (a+i))/\Hid (RStep w wr B o)) (λ _ _ c _=>k-(intOf c).toNat)
 case atStart=>
  refine⟨0,by omega,by simp[qcI],rfl,?_,?_⟩
  ·exact Hd (HR.out.drewN m)
  exact Hd ((RStep.refl _ _ _).drewN m)
 case round=>
  obtain⟨i,hi,rfl,rfl,HA,HS⟩:=hrel;by_cases hlt:i<k
  ·obtain⟨c0,c1,f1,_,_⟩:=HA.out;have hj:(a+i)/8<s.size:=by omega
   have hj1:(0:Int)<=((a:Int)+i)/8:=by omega
   have hj2:((a:Int)+i)/8<(s.size:Int):=by omega
   go_wp2_with fail;go_region;go_wp2
   go_roundw
   case rel=>
    have hb:=zn7 s.data.toList (a+i) (by simpa using hj);refine⟨i+1,by omega,zbg ?_,by go_num,?_,?_⟩
    ·exact zon (Crc.num s.data.toList) a i _ _ (by omega) (qcj _) (by simp at hb;exact hb)
    ·have q:=(HA.out.put (a+i+1) (by omega)).1.drewN 1;rw[show ((a+i+1:Nat):Int)=(a:Int)+i+1 by omega] at q;exact q
    have q:=(HA.out.put (a+i+1) (by omega)).2;rw[show ((a+i+1:Nat):Int)=(a:Int)+i+1 by omega] at q;exact (HS.out.trans q).drewN 1
   case measure=>simp[intOf];omega
  obtain rfl:i=k:=by omega
  go_wp2_with fail;exact qaZ (v:=.tuple #[.int .u32 ((Crc.num s.data.toList/2^a%2^i:Nat):Int),.nilIface]) (by simp[results,Tryz.results172,go_sem, *]) rfl ⟨rfl,HA.out,HS.out⟩
theorem WAt.fresh (w:World) (t:TypeId):WAt (w.alloc (.cells #[.slice none 0 0,.int .i64 0] t)) w.heap.size 0 (.slice none 0 0) 0 0:=by
  refine⟨?_,?_,?_,?_,⟨[],rfl,rfl,qaK _ _ _ _⟩,?_,by decide⟩
  · rw[qaV _ _ _ _ rfl];rfl
  · rw[qaV _ _ _ _ rfl];rfl
  · rw[qbE _ _ _ _ rfl]
  · rw[qbE _ _ _ _ rfl]
  intro e;cases e
theorem WStep.below {w w':World} {B o H:Nat} {v v':Value} (h:WStep w w' B o v v') (hB:H<=B) (hv:∀k,v.ownBlock=some k->H<=k) (hH:H<=w.heap.size):Below H w w':=
  h.keeps.below hH λ k hk q=>by
    rcases q with q | q
    · omega
    have:=hv k q;omega
theorem WStep.own {w w':World} {B o H:Nat} {v v':Value} (h:WStep w w' B o v v') (hv:∀k,v.ownBlock=some k->H<=k) (hH:H<=w.heap.size):∀k,v'.ownBlock=some k->H<=k:=by
  intro k hk;rcases h.new k hk with q | q
  · exact hv k q
  omega
theorem RStep.below {w w':World} {B o H:Nat} (h:RStep w w' B o) (hB:H<=B) (hH:H<=w.heap.size):Below H w w':=
  h.keeps.below hH λ k hk q=>by subst q;omega
structure Tk where
 b:UInt8
 l:Int
 d:Int
structure Tk.Ok (t:Tk):Prop where
 l: -9223372036854775808<=t.l/\t.l<=9223372036854775807
 d: -9223372036854775808<=t.d/\t.d<=9223372036854775807
def Toks (w:World) (x:Option Addr) (n:Nat) (tk:Nat->Tk):Prop:=
 (x=none->n=0)/\∀a,x=some a->∀i,i<n->
  w.cell? (a.add (i*3))=some (.int .u8 ((tk i).b.toNat:Int))/\w.cell? ⟨(a.add (i*3)).block,(a.add (i*3)).off+1,none⟩=some (.int .i64 (tk i).l)/\
  w.cell? ⟨(a.add (i*3)).block,(a.add (i*3)).off+2,none⟩=some (.int .i64 (tk i).d)/\(tk i).Ok
theorem zk1 (a:Addr) (k:Nat):(a.add k).block=a.block:=by unfold Addr.add;split <;> rfl
theorem Toks.keeps {S:Nat->Prop} {w w':World} {x:Option Addr} {n:Nat} {tk:Nat->Tk} (h:Toks w x n tk) (hk:Keeps S w w') (hS:∀a,x=some a->¬ S a.block):Toks w' x n tk:=by
 refine⟨h.1,λ a ha i hi=>?_⟩;obtain⟨c0,c1,c2,ok⟩:=h.2 a ha i hi;have hs:¬ S (a.add (i*3)).block:=by rw[zk1];exact hS a ha
 have hl:(a.add (i*3)).block<w.heap.size:=qab w _ c0;exact⟨(hk.cell hl hs).trans c0,(hk.cell (p:=⟨_,_,none⟩) hl hs).trans c1,(hk.cell (p:=⟨_,_,none⟩) hl hs).trans c2,ok⟩
theorem Toks.ext {w w':World} {x:Option Addr} {n:Nat} {tk:Nat->Tk} (h:Toks w x n tk) (hE:Ext w w'):Toks w' x n tk:=h.keeps (S:=λ _=>False) hE.keeps (λ _ _=>id)
theorem Toks.isSome {w:World} {x:Option Addr} {n:Nat} {tk:Nat->Tk} (h:Toks w x n tk) {i:Nat} (hi:i<n):∃a,x=some a:=by
 cases x with
 | none=>have:=h.1 rfl;omega
 | some a=>exact⟨a,rfl⟩
def copyL (out:List UInt8) (d:Nat):Nat->List UInt8
 | 0=>out
 | k+1=>copyL out d k ++ [(copyL out d k).getD ((copyL out d k).length-d) 0]
theorem za1 (out:List UInt8) (d:Nat):∀k,(copyL out d k).length=out.length+k:=by
 intro k;induction k with
 | zero=>rfl
 | succ k ih=>simp only[copyL,qaa,ih];simp;omega
inductive XRes where
 | ok (out:List UInt8)
 | bad (c i:Nat)
def litP (t:Tk):Prop:=t.l=0/\t.d=0
def badP (t:Tk) (n:Nat):Prop:=t.b≠0\/t.l<3\/258<t.l\/t.d<1\/32768<t.d\/(n:Int)<t.d
instance (t:Tk):Decidable (litP t):=by unfold litP;infer_instance
instance (t:Tk) (n:Nat):Decidable (badP t n):=by unfold badP;infer_instance
def stepX (t:Tk) (k:Nat) (out:List UInt8):XRes:=
 if litP t then (if 300000<out.length+1 then .bad 1 k else .ok (out ++ [t.b]))
 else if badP t out.length then .bad 2 k
 else if 300000<out.length+t.l.toNat then .bad 1 k else .ok (copyL out t.d.toNat t.l.toNat)
def expL (tk:Nat->Tk):Nat->XRes
 | 0=>.ok []
 | k+1=>match expL tk k with
  | .ok out=>stepX (tk k) k out
  | .bad c i=>.bad c i
theorem zlT {tk:Nat->Tk} {k:Nat} {out:List UInt8} (h:expL tk k=.ok out):expL tk (k+1)=stepX (tk k) k out:=by
 simp only[expL,h]
theorem zmt {t:Tk} {k:Nat} {out:List UInt8} (h:litP t) (hb:out.length+1<=300000):stepX t k out=.ok (out ++ [t.b]):=by
 unfold stepX;rw[qad h,qac (by omega)]
theorem zb8 (B o a:Nat) (s:ByteArray) (w:World) (hR:RAt w B o s a) (ha:a<=8*s.size):
    Calls Tryz.prog 136 #[.pointer (some ⟨B,o,none⟩)] w λ e w'=>e=.returned (.tuple #[])/\RAt w' B o s ((a+7)/8*8)/\RStep w w' B o:=by
  have P:=hR.put ((a+7)/8*8) (by omega);obtain⟨c0,c1,f1,hs,hle⟩:=hR;have e8:((a:Int)+7)/8*8=(((a+7)/8*8:Nat):Int):=by omega
  rw[<- e8] at P;have HP:=Hd P;have H8:=Hd e8;clear P e8;go_enter Tryz.func136,Tryz.ntmps136
  go_wp2
  go_end0;exact⟨rfl,HP.out⟩
theorem zmM (B o a k:Nat) (s:ByteArray) (w:World) (hR:RAt w B o s a) (ha:a<=8*s.size) (hk:k<=100000000) (h:8*s.size<(a+7)/8*8+8*k):
  Calls Tryz.prog 174 #[.pointer (some ⟨B,o,none⟩),.int .i64 (k:Int)] w λ e w'=>e=.returned (.tuple #[.string ⟨#[]⟩,.bool false])/\RAt w' B o s ((a+7)/8*8)/\RStep w w' B o:=by
 have HA:=Hd (zb8 B o a s w hR ha);have hsz:=hR.size;clear hR;obtain⟨a',ha'⟩:∃x,(a+7)/8*8=x:=⟨_,rfl⟩;rw[ha'] at h HA⊢;have hlt:8*(s.size:Int)-(a':Int)<8*(k:Int):=by omega
 have wk:=wqz (x:=8*(k:Int));clear h ha';go_enter Tryz.func174,Tryz.ntmps174
 go_wp2_with fail;refine HA.out.mono ?_;rintro e w1 ⟨rfl,hR,hS⟩;have R1:=Hd hR;have S1:=Hd hS;clear hR hS HA;go_wp2_with fail;refine (zcF B o a' s w1 R1.out).mono ?_;rintro e w2 ⟨rfl,m,rfl⟩;go_wp2_with fail;go_ret2;exact⟨rfl,R1.out.drewN m,S1.out.drewN m⟩
theorem zkT (B o a k:Nat) (s:ByteArray) (w:World) (hR:RAt w B o s a) (ha:a<=8*s.size) (h:(a+7)/8*8+8*k<=8*s.size):
  Calls Tryz.prog 174 #[.pointer (some ⟨B,o,none⟩),.int .i64 (k:Int)] w λ e w'=>e=.returned (.tuple #[.string (s.extract ((a+7)/8) ((a+7)/8+k)),.bool true])/\RAt w' B o s ((a+7)/8*8+8*k)/\RStep w w' B o:=by
 have HA:=Hd (zb8 B o a s w hR ha);have hsz:=hR.size;clear hR;obtain⟨q,hq⟩:=nmE ((a+7)/8);rw[hq] at h HA⊢;obtain⟨a',ha'⟩:∃x,q*8=x:=⟨_,rfl⟩;rw[ha'] at h HA⊢;obtain⟨q2,hq2⟩:=nmE (q+k);obtain⟨a2,ha2⟩:=nmE (a'+8*k);rw[hq2];rw[ha2] at h⊢;have hlt:¬ 8*(s.size:Int)-(a':Int)<8*(k:Int):=by omega
 have e1:(a':Int)/8=(q:Int):=by omega
 have e2:(q:Int)+(k:Int)=(q2:Int):=by omega
 have e3:(a':Int)+8*(k:Int)=(a2:Int):=by omega
 have e4:q<=q2/\q2<=s.size:=by omega
 have e5:=e4.1;have e6:=e4.2;have wk:=wqz (x:=8*(k:Int));have wq2:=wqz (x:=(q2:Int));have wq1:=wqz (x:=(q:Int));have e7:((q:Nat):Int).toNat=q:=by omega
 have e8:((q2:Nat):Int).toNat=q2:=by omega
 have wa2:=wqz (x:=(a2:Int));have H2:=Hd h;clear h hq ha' hq2 ha2 e4;go_enter Tryz.func174,Tryz.ntmps174
 go_wp2_with fail;refine HA.out.mono ?_;rintro e w1 ⟨rfl,hR,hS⟩;have R1:=Hd hR;have S1:=Hd hS;clear hR hS HA;go_wp2_with fail;refine (zcF B o a' s w1 R1.out).mono ?_;rintro e w2 ⟨rfl,m,rfl⟩;have R2:=Hd (R1.out.drewN m);have S2:=Hd (S1.out.drewN m);go_upto_region 4 with fail;refine zac (λ wz=>Hid (RAt wz B o s a')/\Hid (RStep w wz B o)) ⟨R2,S2⟩ ?_;clear R1 S1 R2 S2 hlt;rintro w3 ⟨R3,S3⟩;have c0:=R3.out.c0;have c1:=R3.out.c1;have f1:=R3.out.f1;have P:=Hd (R3.out.put a2 (by have:=H2.out;omega));refine qaD 17 (by kernel_rfl) (by kernel_rfl) ?_;simp only[qao,qaH,qaw,qaS];repeat still_step
 refine qbB ?_;change wpList _ _ _ _ _ w3.drew;go_wp2_with fail;go_ret2;exact⟨rfl,P.out.1.drewN 1,S3.out.trans (P.out.2.drewN 1)⟩
@[irreducible] def tb (l:List UInt8):ByteArray:=⟨l.toArray⟩
theorem zfV (l:List UInt8):tb l=⟨l.toArray⟩:=by unfold tb;rfl
theorem zp4 (l:List UInt8):(tb l).data.toList=l:=by unfold tb;rfl
theorem zj2 (l:List UInt8):(tb l).size=l.length:=by rw[zfV];rfl
theorem zgk {a b:ByteArray} (h:a.data.toList=b.data.toList):a=b:=by
  obtain⟨⟨a⟩⟩:=a;obtain⟨⟨b⟩⟩:=b;simp at h;rw[h]
theorem zag (s:ByteArray):s.data.toList.length=s.size:=by rw[qcq];rfl
theorem zbY (s:ByteArray) (a b:Nat):(s.extract a b).data.toList=(s.data.toList.drop a).take (b-a):=by
  rw[qb4,qca,List.extract_eq_take_drop]
theorem zdo (s:ByteArray):Lib.strCells s=zad s.data.toList:=rfl
theorem zam {w:World} {base:Nat} {e:TypeId} {size:Nat} {v:Value} {n:Nat} {xs:List Value} (h:w.ownsRow base e size v n xs):∃x c,v=.slice x n c:=by
  rcases zah h with⟨h1,h2⟩ | ⟨g,cap,h1⟩
  · exact⟨none,0,by rw[h1,h2]⟩
  exact⟨_,cap,h1⟩
theorem ze1 {w:World} {base L:Nat} {v:Value} {l:List UInt8} (hl:l.length=L) (h:w.ownsRow base 5 1 v L (zad l)):(convert 62 9 v).run Tryz.prog w=.ok (.string (tb l)) w:=by
  rw[zfV];subst hl;rcases zah h with⟨rfl,h0⟩ | ⟨g,cap,rfl⟩
  · rw[qcB w 62 9 5 none 0 0 Tryz.underlying62 Tryz.underlying5 Tryz.underlying9,qav h0];rfl
  refine qbt (P:=Tryz.prog) w 62 9 5 ⟨g,0,none⟩ cap l Tryz.underlying62 Tryz.underlying5 Tryz.underlying9 (λ j hj=>?_);rw[zae,h.cellAt j (by omega),zaN _ j hj]
theorem u8inf:(Tryz.prog.info? 5).map (λ i=>(i.zero,i.size,i.bytes))=some (some (.int .u8 0),1,1):=by kernel_rfl
theorem zpU (s:ByteArray):s.toList.isEmpty=decide (s.size=0):=by
  rw[qbp,<- zag];cases s.data.toList <;> rfl
theorem zqu (s:ByteArray) (h:s.size≠0):s.toList.isEmpty=false:=by rw[zpU];exact qaf h
def Unfr (cur:Array Value) (fr:Nat × Nat):Prop:=∀j,j<cur.size->(decide (fr.1<=j)&&decide (j<fr.2))=false
def MRow (w:World) (base:Nat) (v:Value) (l:List UInt8):Prop:=
 ∃g cap cur fr,v=.slice (some ⟨g,0,none⟩) l.length cap/\base<=g/\w.heap[g]? =some (.cells cur 5 fr)/\Unfr cur fr/\l.length<=cap/\cap<=maxLen/\cur.size=cap/\cur.toList.take l.length=zad l
theorem MRow.keeps {S:Nat->Prop} {w w':World} {base:Nat} {v:Value} {l:List UInt8} (h:MRow w base v l) (hk:Keeps S w w') (hn:∀k,v.ownBlock=some k->¬ S k):MRow w' base v l:=by
 obtain⟨g,cap,cur,fr,rfl,h1,h2,r⟩:=h;exact⟨g,cap,cur,fr,rfl,h1,by rw[hk.block g (qbK h2) (hn g rfl)];exact h2,r⟩
theorem MRow.ext {w w':World} {base:Nat} {v:Value} {l:List UInt8} (h:MRow w base v l) (hE:Ext w w'):MRow w' base v l:=h.keeps (S:=λ _=>False) hE.keeps (λ _ _=>id)
theorem MRow.own {w:World} {base k:Nat} {v:Value} {l:List UInt8} (h:MRow w base v l) (hk:v.ownBlock=some k):base<=k/\k<w.heap.size:=by
 obtain⟨g,cap,cur,fr,rfl,h1,h2,_⟩:=h;obtain rfl:g=k:=qb6 (show some g=some k from hk);exact⟨h1,qbK h2⟩
theorem MRow.cell {w:World} {base j:Nat} {v:Value} {l:List UInt8} (h:MRow w base v l) (hj:j<l.length):∃g cap,v=.slice (some ⟨g,0,none⟩) l.length cap/\w.cell? ⟨g,j,none⟩=(zad l)[j]?:=by
 obtain⟨g,cap,cur,fr,rfl,h1,h2,_,h4,h5,h6,h7⟩:=h;refine⟨g,cap,rfl,?_⟩;rw[cell_of_row w g j cur _ fr h2,<- h7,qcn hj];simp
theorem MRow.conv {w:World} {base:Nat} {v:Value} {l:List UInt8} (h:MRow w base v l):(convert 62 9 v).run Tryz.prog w=.ok (.string (tb l)) w:=by
 rw[zfV];have hc:=h;obtain⟨g,cap,cur,fr,rfl,h1,h2,_⟩:=h;refine qbt (P:=Tryz.prog) w 62 9 5 ⟨g,0,none⟩ cap l Tryz.underlying62 Tryz.underlying5 Tryz.underlying9 (λ j hj=>?_);obtain⟨g',cap',e1,e2⟩:=hc.cell hj;injection e1 with e1;injection e1 with e1;injection e1 with e1;subst e1;rw[zae,e2,zaN _ j hj]
theorem MRow.made (w:World) (s:ByteArray) (hs:s.size<=maxLen):∃v w',(convert 9 62 (.string s)).run Tryz.prog w=.ok v w'/\MRow w' w.heap.size v s.data.toList/\Ext w w':=by
 have hge:=grownCap_ge w s.size 0 5;have hcm:=grownCap_le_maxLen w s.size 0 5 hs;have hsz:(Lib.bytesCells w 5 s).size=grownCap w s.size 0 5 :=by
  unfold Lib.bytesCells;rw[Array.size_append,Array.size_map,Array.size_replicate];show s.size+_=_;omega
 refine⟨_,_,Lib.run_convert_string_bytes (P:=Tryz.prog) w 9 62 5 s Tryz.underlying9 Tryz.underlying62 Tryz.underlying5,⟨w.heap.size,_,_,_,by rw[zag],qaj _,Lib.bytesWorld_at_new w _ s,?_,by rw[zag];exact hge,hcm,hsz,?_⟩,?_⟩
 ·intro j hj;simp only[Bool.and_eq_false_iff,decide_eq_false_iff_not];left;omega
 ·have e:(Lib.bytesCells w 5 s).toList=zad s.data.toList++(Array.replicate (grownCap w s.size 0 5 - s.size) (Value.int .u8 0)).toList:=by
   unfold Lib.bytesCells zad;simp
  rw[e,List.take_append_of_le_length (by rw[zbx];exact qaj _),qan (by rw[zbx];exact qaj _)]
 exact⟨rfl,rfl,rfl,by rw[Lib.bytesWorld_size];omega,λ k hk=>Lib.bytesWorld_at_old w _ s k hk⟩
theorem zg4 {P:Program} (w:World) (base:Nat) (t u ty e:TypeId) (i:TypeInfo) (ht:P.underlying t=some (.slice e)) (hu:P.underlying u=some .string) (hi:P.info? e=some i) (hz:i.zero=some (.int .u8 0))
  (hsize:i.size=1) (hby:i.bytes=1) (v:Value) (n:Nat) (xs:List Value) (hown:w.ownsRow base e 1 v n xs) (s:ByteArray) (h63:n+s.size<=maxLen) (hb:n+s.size<=140737488355328) (hbase:base<=w.heap.size):
  ∃v' w',(Builtin.append_ #[t,u] ty #[v,.string s]).run P w=.ok v' w'/\w'.ownsRow base e 1 v' (n+s.size) (xs++Lib.strCells s)/\w.grownBy w' v.ownBlock/\(v'.ownBlock=v.ownBlock\/v'.ownBlock=some w.heap.size):=by
 obtain⟨v',w',hr,h2,h3,h4⟩:=Lib.run_append_own_string (P:=P) w base t u ty e i ht hu hi hz hsize hby v n xs hown s h63 hb hbase;refine⟨v',w',hr,h2,h3,?_⟩;rcases hown.2 with⟨rfl,rfl⟩ | ⟨g,cap,cur,rfl,_,hg,hnc,_,hcs,_⟩
 ·by_cases h0:s.size=0
  ·rw[h4.2 ⟨rfl,h0⟩];exact .inl rfl
  have q:=run_append_nil_string (P:=P) w t u ty e i (.int .u8 0) ht hu hi hz s (by omega) (by omega) (by rw[hby];omega);rw[hr] at q;injection q with q1 q2;rw[q1];exact .inr rfl
 by_cases hroom:n+s.size<=cap
 ·have q:=Lib.run_append_room_string (P:=P) w t u ty e i ht hu hi hsize g n cap cur hg s hroom (by omega);rw[hr] at q;injection q with q1 q2;rw[q1];exact .inl rfl
 have hlo:xs.length=n*i.size:=by rw[hsize];simpa using hown.1
 have q:=Lib.run_append_grow_string (P:=P) w t u ty e i (.int .u8 0) ht hu hi hz ⟨g,0,none⟩ n cap xs hlo (hown.cells (g:=g) rfl) s (by omega) (by simp only[maxLen] at h63;omega) (by rw[hby];exact growslice_fits (by omega) (by omega));rw[hr] at q;injection q with q1 q2;rw[q1];exact .inr rfl
theorem zcz {P:Program} {w:World} {ops:Array Oper} {rest:List Oper} {o:Oper} {a:Act} {Q:Exit->Act->World->Prop} (hgd:o.guard=none) (sl x:Operand) (t u:TypeId)
  (ho:o.op=.call { callee:=.builtin .append,args:=#[sl,x],argTypes:=#[t,u] }) (base:Nat) (e:TypeId) (i:TypeInfo) (ht:P.underlying t=some (.slice e)) (hu:P.underlying u=some .string) (hi:P.info? e=some i) (hz:i.zero=some (.int .u8 0))
  (hsize:i.size=1) (hby:i.bytes=1) (v:Value) (n:Nat) (xs:List Value) (hs:a.eval sl=v) (hown:w.ownsRow base e 1 v n xs) (s:ByteArray) (hx:a.eval x=.string s) (h63:n+s.size<=maxLen) (hb:n+s.size<=140737488355328) (hbase:base<=w.heap.size)
  (h:∀v' w',w'.ownsRow base e 1 v' (n+s.size) (xs++Lib.strCells s)->w.grownBy w' v.ownBlock->(v'.ownBlock=v.ownBlock\/v'.ownBlock=some w.heap.size)->wpList P ops Q rest (a.put o.dst v') w'):wpList P ops Q (o ::rest) a w:=by
 refine wpList_plain hgd λ K hK=>?_;obtain⟨v',w',hr,h2,h3,h4⟩:=zg4 (P:=P) w base t u o.type e i ht hu hi hz hsize hby v n xs hown s h63 hb hbase;unfold Oper.wp execOp;simp only[ho,resolve,invoke,builtin,qbu,qbM,qas,qbg,qaG,qa9,hs,hx,hr];exact hK _ _ (h v' w' h2 h3 h4)
theorem zlV (B o n V x k:Nat) (v:Value) (w:World) (hW:WAt w B o v V n) (hk:k<=32) (hx:x<2^k) (hn:n+32<1099511627776):
  Calls Tryz.prog 130 #[.pointer (some ⟨B,o,none⟩),.int .u32 (x:Int),.int .i64 (k:Int)] w λ e w'=>e=.returned .nilIface/\∃v',WAt w' B o v' (V+Bts.val (Bts.high x k)*2^n) (n+k)/\WStep w w' B o v v':=by
 have hx32:x<4294967296:=qaA hx (qaq (n:=2) (by decide) hk);have hfit:decide (0<=(k:Int)/\(k:Int)<=32/\x<2^(k:Int).toNat)=true:=by rw[qaP];exact⟨by omega,by omega,by simpa using hx⟩
 have HX:=Hd hx;have HW:=Hd hW;have HF:=Hd hfit;clear hx hW hfit;go_enter Tryz.func130,Tryz.ntmps130
 go_wp2_with fail;refine (zfD x k _ (by omega) (by omega) hx32).mono ?_;rintro e w1 ⟨he,rfl⟩;rw[HF.out] at he;subst he;go_wp2_with fail;go_loopw [7] (λ c wr=>∃(d Vt:Nat) (u:Value),d<=k/\c=.int .i64 ((d:Int)-1)/\Hid (WAt wr B o u Vt (n+(k-d)))/\Hid (Vt+Bts.val (Bts.high x d)*2^(n+(k-d))=V+Bts.val (Bts.high x k)*2^n)/\Hid (WStep w wr B o v u)) (λ c _=>(intOf c+1).toNat)
 case atStart=>
  refine⟨k,V,v,by omega,rfl,?_,?_,Hd (WStep.refl _ _ _ _)⟩
  ·rw[qcp,qcd];exact HW
  rw[qcp,qcd];exact Hd rfl
 case round=>
  obtain⟨d,Vt,u,hd,rfl,HA,HV,HS⟩:=hrel;by_cases hlt:0<d
  ·obtain⟨j,rfl⟩:∃j,d=j+1:=⟨d-1,by omega⟩;rw[show (((j+1:Nat):Int)-1)=(j:Int) by omega];go_wp2_with fail;rw[zjz x j (qct (qcy _ _) hx32)];refine (zgX B o (n+(k-(j+1))) _ _ u _ HA.out (by omega) (by omega)).mono ?_;rintro e w2 ⟨rfl,u2,hA2,hS2⟩;have HA2:Hid (WAt w2 B o u2 (Vt+x/2^j%2*2^(n+(k-(j+1)))) (n+(k-j))):=Hd (by
    rw[show n+(k-j)=n+(k-(j+1))+1 by omega];exact hA2)
   have HV2:Hid (Vt+x/2^j%2*2^(n+(k-(j+1)))+Bts.val (Bts.high x j)*2^(n+(k-j))=V+Bts.val (Bts.high x k)*2^n):=Hd (by
    rw[<- HV.out,Bts.zby,show n+(k-j)=n+(k-(j+1))+1 by omega,qa1,qbZ,qaJ 2 (Bts.val _),qbr (Bts.val _) 2,qaJ 2 (2^_)];omega)
   have HS2:=Hd (HS.out.trans hS2);clear hA2 hS2 HA HS HV;go_wp2_with fail;go_roundw
   case rel=>exact⟨j,_,u2,by omega,rfl,HA2,HV2,HS2⟩
   case measure=>first | (simp[intOf];done) | (simp[intOf];omega)
  obtain rfl:d=0:=by omega
  rw[show (((0:Nat):Int)-1)= -1 by omega];go_wp2_with fail;go_ret;refine⟨rfl,u,?_,HS.out⟩;have q:=HA.out;have q2:=HV.out;simp only[Bts.high,Bts.val,Nat.zero_mul,qcd,Nat.sub_zero] at q q2;rwa [q2] at q
@[irreducible] def wpQ (P:Program) (ops:Array Oper) (w:World) (Q:Act->Prop) (l:List Oper) (a:Act):Prop:=wpStill P ops w Q l a
theorem zdv {P:Program} {ops:Array Oper} {w:World} {Q:Act->Prop} {l:List Oper} {a:Act}:wpQ P ops w Q l a=wpStill P ops w Q l a:=by unfold wpQ;rfl
theorem zaf {P:Program} {ops:Array Oper} {w:World} {Q:Act->Prop} {a:Act} (h:Q a):wpQ P ops w Q [] a:=by rw[zdv];exact h
theorem zqD {P:Program} {ops:Array Oper} {w:World} {Q:Act->Prop} {a:Act} {o:Oper} {rest:List Oper} (hw:Region.wanted o (yielded ops a.tmps)=false) (h:wpQ P ops w Q rest (a.put o.dst undef)):wpQ P ops w Q (o ::rest) a:=by
 rw[zdv] at h⊢;unfold wpStill;rw[hw];exact h
theorem zau {P:Program} {ops:Array Oper} {w:World} {Q:Act->Prop} {a:Act} {o:Oper} {rest:List Oper} (hw:Region.wanted o (yielded ops a.tmps)=true)
  (h:∀K:Act->Prop,(∀a,wpQ P ops w Q rest a->K a)->o.still P a w K):wpQ P ops w Q (o ::rest) a:=by
 rw[zdv];unfold wpStill;rw[hw];exact h _ (λ _ q=>by rw[zdv] at q;exact q)
theorem zkW {P:Program} {id:Nat} {Q:Exit->Act->World->Prop} {a:Act} {w:World} {l:List Oper} (hm:P.follows .mixedOrders=true) (hB:Region.lexB .any l.toArray=true)
  (h:wpQ P l.toArray w.drew (λ a'=>Q .normal a' w.drew) l a):(Code.region id l.toArray true).wp P Q a w:=
 wp_region_still_lit hm hB (by rw[zdv] at h;exact h)
theorem zbB {P:Program} {id:Nat} {Q:Exit->Act->World->Prop} {a:Act} {w:World} {l:List Oper} (n:Nat) (hm:P.follows .mixedOrders=true) (hB:Region.lexTailB .any l.toArray n=true)
  (h:wpQ P l.toArray w.drew (λ a'=>wpList P l.toArray Q (l.drop n) a' w.drew) (l.take n) a):(Code.region id l.toArray true).wp P Q a w:=
 qaD n hm hB (by rw[zdv] at h;exact h)
theorem rgQ {P:Program} {id:Nat} {Q:Exit->Act->World->Prop} {a:Act} {w:World} {l:List Oper} (h:wpQ P l.toArray w.drew (λ a'=>Q .normal a' w.drew) l a) (hm:P.follows .mixedOrders=true:=by kernel_rfl) (hB:Region.lexB .any l.toArray=true:=by kernel_rfl):(Code.region id l.toArray true).wp P Q a w:=zkW hm hB h
theorem qY {P:Program} {ops:Array Oper} {w:World} {Q:Act->Prop} {a a':Act} {o:Oper} {rest:List Oper} (h:wpQ P ops w Q rest a') (hw:Region.wanted o (yielded ops a.tmps)=true:=by kernel_rfl) (hs:∀K:Act->Prop,K a'->o.still P a w K:=by intro K hK;go_simp;exact hK):wpQ P ops w Q (o ::rest) a:=zau hw λ K hK=>hs K (hK _ h)
theorem qN {P:Program} {ops:Array Oper} {w:World} {Q:Act->Prop} {a a':Act} {o:Oper} {rest:List Oper} (h:wpQ P ops w Q rest a') (hw:Region.wanted o (yielded ops a.tmps)=false:=by kernel_rfl) (e:a.put o.dst undef=a':=by (try (conv=>lhs;simp only[Act.put,xz]));(first | done | rfl)):wpQ P ops w Q (o ::rest) a:=by
 subst e;exact zqD hw h
def Cv (w:World) (B n:Nat) (g:Nat->Value):Prop:=∀i,i<n->w.cell? ⟨B,i,none⟩=some (g i)/\w.frozen? ⟨B,i,none⟩=false
theorem Cv.congr {w:World} {B n:Nat} {g g':Nat->Value} (h:Cv w B n g) (hg:∀i,i<n->g' i=g i):Cv w B n g':=by
  intro i hi;rw[hg i hi];exact h i hi
theorem Cv.put {w:World} {B n:Nat} {g:Nat->Value} (h:Cv w B n g) (j:Nat) (x:Value) (g':Nat->Value) (hj:j<n) (hg:∀i,i<n->g' i=if i=j then x else g i):Cv (w.setCell ⟨B,j,none⟩ x) B n g':=by
  intro i hi;obtain⟨h1,h2⟩:=h i hi;rw[hg i hi,qap];refine⟨?_,h2⟩;by_cases e:i=j
  · subst e;rw[qad rfl];exact qa0 _ _ _ h1
  rw[qac e];exact (qah _ _ _ _ (by intro q;injection q with _ q2;exact e q2.symm)).trans h1
theorem Cv.keeps {w w':World} {B n:Nat} {g:Nat->Value} {S:Nat->Prop} (h:Cv w B n g) (hk:Keeps S w w') (hB:¬ S B):Cv w' B n g:=by
  intro i hi;obtain⟨h1,h2⟩:=h i hi;have hlt:B<w.heap.size:=qab w _ h1;exact⟨(hk.cell (p:=⟨B,i,none⟩) hlt hB).trans h1,(hk.frozen (p:=⟨B,i,none⟩) hlt hB).trans h2⟩
theorem Cv.ext {w w':World} {B n:Nat} {g:Nat->Value} (h:Cv w B n g) (hE:Ext w w'):Cv w' B n g:=h.keeps (S:=λ _=>False) hE.keeps id
theorem Cv.drew {w:World} {B n:Nat} {g:Nat->Value} (h:Cv w B n g):Cv w.drew B n g:=h
theorem Cv.drewN {w:World} {B n:Nat} {g:Nat->Value} (h:Cv w B n g) (m:Nat):Cv (w.drewN m) B n g:=h
theorem Cv.made (w:World) (n:Nat) (z:Value) (t:TypeId):Cv (w.alloc (.cells (madeCells #[z] n) t)) w.heap.size n (λ _=>z):=by
  intro i hi;rw[qaV _ _ _ _ rfl,qbE _ _ _ _ rfl];refine⟨?_,rfl⟩;have hs:i<(madeCells #[z] n).size:=by rw[size_madeCells];simpa using hi
  rw[qck hs];simp[madeCells,qcI]
end Go.Proofs.YthlibiocadimhaaGreatDoor
