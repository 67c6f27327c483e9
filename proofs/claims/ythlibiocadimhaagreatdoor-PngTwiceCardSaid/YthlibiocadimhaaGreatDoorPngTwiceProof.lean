/-
  PngTwice: for every picture and every text the statement returns true. No condition beside the tied variables.
-/
import Derived.Test.YthlibiocadimhaaGreatDoorPngTwiceG1
import Derived.Test.YthlibiocadimhaaGreatDoorRows
import Derived.Test.YthlibiocadimhaaGreatDoorPngTwiceG30
import Derived.Test.YthlibiocadimhaaGreatDoorPngTwiceG2
import Derived.Test.YthlibiocadimhaaGreatDoorCards
import Derived.Test.YthlibiocadimhaaGreatDoorTie
import Derived.SevenTiedAt
import Derived.LaidMore
import Derived.Stop.Joined
import Derived.Lib.SmallJoins
set_option linter.unusedSimpArgs false
set_option linter.unusedVariables false
set_option maxRecDepth 100000
namespace Go.Proofs.YthlibiocadimhaaGreatDoor
open Go.ChangeShapes Go.WideShapes Go.ChangeAt Go.RowKit
open Go.WideMaps Go.WideElems
open Go.ChangeMaps (open_string shut_string)
open Go.Joins
theorem pngTwice_laidOk:laidOutB Tryz.prog=true:=by kernel_rfl
theorem pngTwice_own:ownKnob Tryz.prog.godebug=none:=by kernel_rfl
theorem pngTwice_doorMet (os:Os) (args:Array Value):laidMetH Tryz.prog Rows.pngTwiceRow.laid ((World.doorLaid Tryz.prog 1000 os).forCall (fun _ _=>0) ⟨#[],args,[]⟩).memory:=
 laidMetH_of_parts3 (fuel:=8) (laidMet_of_run' 8 (by kernel_rfl) (by kernel_rfl)) (by kernel_rfl) (by kernel_rfl)
set_option maxRecDepth 100000 in
theorem pngTwice_lifted (os:Os) (started:os.Started) (H:Type) (enc:TypeId × Value→H):
  ReturnsInHanded {} Tryz.checked os 3 .any (fun w args=>(Rows.pngTwiceSpec.pre enc Tryz.prog Tryz.f3 [] false w args∧laidMetH Tryz.prog Rows.pngTwiceRow.laid w)∧sizedMet enc Tryz.prog Tryz.f3 (OpenSpec.ofChange Rows.pngTwiceSpec) false w args)
   (Rows.pngTwiceSpec.post enc Tryz.prog Tryz.f3 false true false false):=by
 refine returnsInHanded_of_change_and (C:=Tryz.checked) (X:=fun w _=>laidMetH Tryz.prog Rows.pngTwiceRow.laid w) (fun _ _ _ hh h=>h.of_heap hh) pngTwice_own started (by kernel_rfl) Tryz.func3
  (ChangeSpec.witness_shaped (enc:=enc) (C:=Tryz.checked) (os:=os) (X:=fun w _=>laidMetH Tryz.prog Rows.pngTwiceRow.laid w) false (World.doorLaid Tryz.prog 1000 os) #[.agg #[.int .i64 0,.int .i64 0,.slice none 0 0],.string ByteArray.empty] 8 rfl (World.shaped_of_RefB (by kernel_rfl) (by kernel_rfl)) (by kernel_rfl) (by kernel_rfl) (by kernel_rfl) (pngTwice_doorMet os _)) ?_
 intro W base args ds gs before hval0 hW _ _ hL _;have hval : ∀ (j : Nat) t v, Tryz.f3.params[j]? = some t → args[j]? = some v → Value.okWide Tryz.prog W .any base t v := hval0;have hW' := hW;obtain ⟨p, q, hA0, hV, rfl, hfz, hnd⟩ := hW;have hA : DataW.TrodAll enc Tryz.prog W 0 (fun _ => true) true Tryz.f3.params.toList args.toList ds p := hA0;rw [Tryz.params3] at hA hval;obtain ⟨v0, v1, d0, d1, p0, p1, rfl, rfl, rfl, h0, h1⟩ := trodAll_two hA;obtain ⟨rfl, rfl⟩ := trodVars_none hV;have hv0 := hval 0 24 v0 rfl rfl;obtain ⟨x1, rfl, rfl, rfl, w1⟩ := open_string Tryz.underlying9 (hval 1 9 v1 rfl rfl) h1;clear hA0 hval0;simp only [List.append_nil] at hW';obtain ⟨W0, H0, a0, n0, cap0, px0, rfl, _, _, hn0, h00, hx0⟩ := open_pic hv0 h0;obtain ⟨e0, _, k0, _⟩ := sentinel hL (n := "layercake/api.ErrText") (g := 1) rfl (by kernel_rfl) (by kernel_rfl) Tryz.underlying28
 obtain ⟨e1, _, k1, _⟩ := sentinel hL (n := "layercake/api.ErrBound") (g := 2) rfl (by kernel_rfl) (by kernel_rfl) Tryz.underlying28
 obtain ⟨e2, _, k2, _⟩ := sentinel hL (n := "layercake/api.ErrShape") (g := 0) rfl (by kernel_rfl) (by kernel_rfl) Tryz.underlying28
 obtain ⟨e3, _, k3, _⟩ := sentinel hL (n := "layercake/api.ErrSum") (g := 3) rfl (by kernel_rfl) (by kernel_rfl) Tryz.underlying28
 have hT:=tabs_of_laid hL rfl rfl rfl rfl rfl;refine (pngTwice_any W0 H0 a0 n0 cap0 px0 x1 W _ (Errs.four k0 k1 k2 k3) hT hx0 h00 hn0 w1).mono fun e W' ⟨he,hB⟩=>?_;exact⟨_,he,law_post pngTwice_laidOk hW' rfl rfl (by kernel_rfl) rfl Tryz.underlying4 hB⟩
theorem pngTwice_holds:Rows.PngTwiceSaid:=
 OpenClaim.holds_of_wide 3 Tryz.f3 rfl rfl rfl rfl rfl rfl rfl ⟨rfl,rfl,rfl,rfl,rfl⟩ rfl rfl rfl rfl rfl (by kernel_rfl) Tryz.func3 (by kernel_rfl)
  (of_decide_eq_true (by kernel_rfl)) (by unfold Func.isWrapper;rw[if_neg (of_decide_eq_false (by kernel_rfl))];exact⟨rfl,rfl⟩)
  (fun os started H enc _=>pngTwice_lifted os started H enc)
theorem pngTwice_card:Rows.PngTwiceCardSaid:=
 Claim7.holds_tied_plain_at .later [] _ true _ _
  pngTwice_holds (fun _ h=>by cases h) (by kernel_rfl) (fun _ h=>by cases h) pngTwice_row_tie rfl ⟨rfl,rfl⟩ (by kernel_rfl) rfl
  (fun f fn hf hfn=>by
   obtain rfl : f = 3 := Option.some.inj ((show Tryz.prog.funcNamed "layercake/layercakelaw2.PngTwice" = some 3 by kernel_rfl).symm.trans hf) |>.symm
   obtain rfl:fn=Tryz.f3 :=(Option.some.inj (Tryz.func3.symm.trans hfn)).symm;exact⟨by kernel_rfl,fun j t ht=>by
    rw[Tryz.params3] at ht;have hm:t∈ [24,9]:=by simpa using Array.mem_of_getElem? ht
    have hall:([24,9].all fun u=>!Tryz.prog.wantsStandIn u)=true:=by kernel_rfl
    exact (show Tryz.prog.wantsStandIn t=false by simpa using List.all_eq_true.1 hall t hm)⟩)
  (by kernel_rfl)
end Go.Proofs.YthlibiocadimhaaGreatDoor
