/-
  PngReads: for every text the statement returns true. No condition beside the tied variables.
-/
import Derived.Test.YthlibiocadimhaaGreatDoorPngReadsG40
import Derived.Test.YthlibiocadimhaaGreatDoorCards
import Derived.Test.YthlibiocadimhaaGreatDoorTie
set_option linter.all false
set_option maxRecDepth 100000
namespace Go.Proofs.YthlibiocadimhaaGreatDoor
open Go.ChangeShapes Go.WideShapes Go.ChangeAt Go.RowKit
open Go.WideMaps Go.WideElems
open Go.ChangeMaps (open_string shut_string)
theorem pngReads_laidOk:laidOutB Tryz.prog=true:=by kernel_rfl
theorem pngReads_own:ownKnob Tryz.prog.godebug=none:=by kernel_rfl
theorem pngReads_doorMet (os:Os) (args:Array Value):laidMetH Tryz.prog Rows.pngReadsRow.laid ((World.doorLaid Tryz.prog 1000 os).forCall (λ _ _=>0) ⟨#[],args,[]⟩).memory:=
 laidMetH_of_parts3 (fuel:=8) (laidMet_of_run' 8 (by kernel_rfl) (by kernel_rfl)) (by kernel_rfl) (by kernel_rfl)
set_option maxRecDepth 100000 in
theorem pngReads_lifted (os:Os) (started:os.Started) (H:Type) (enc:TypeId × Value->H):
  ReturnsInHanded {} Tryz.checked os 5 .any (λ w args=>(Rows.pngReadsSpec.pre enc Tryz.prog Tryz.f5 [] false w args/\laidMetH Tryz.prog Rows.pngReadsRow.laid w)/\sizedMet enc Tryz.prog Tryz.f5 (OpenSpec.ofChange Rows.pngReadsSpec) false w args)
   (Rows.pngReadsSpec.post enc Tryz.prog Tryz.f5 false true false false):=by
 refine returnsInHanded_of_change_and (C:=Tryz.checked) (X:=λ w _=>laidMetH Tryz.prog Rows.pngReadsRow.laid w) (λ _ _ _ hh h=>h.of_heap hh) pngReads_own started (by kernel_rfl) Tryz.func5
  (ChangeSpec.witness_shaped (enc:=enc) (C:=Tryz.checked) (os:=os) (X:=λ w _=>laidMetH Tryz.prog Rows.pngReadsRow.laid w) false (World.doorLaid Tryz.prog 1000 os) #[.string ByteArray.empty] 8 rfl (World.shaped_of_RefB (by kernel_rfl) (by kernel_rfl)) (by kernel_rfl) (by kernel_rfl) (by kernel_rfl) (pngReads_doorMet os _)) ?_
 intro W base args ds gs before hval0 hW _ _ hL _;have hval:∀(j:Nat) t v,Tryz.f5.params[j]? =some t->args[j]? =some v->Value.okWide Tryz.prog W .any base t v:=hval0;have hW':=hW;obtain⟨p,q,hA0,hV,rfl,hfz,hnd⟩:=hW;have hA:DataW.TrodAll enc Tryz.prog W 0 (λ _=>true) true Tryz.f5.params.toList args.toList ds p:=hA0;rw[Tryz.params5] at hA hval;obtain⟨v0,d0,rfl,rfl,h0⟩:=trodAll_one hA;obtain⟨rfl,rfl⟩:=trodVars_none hV;obtain⟨x0,rfl,rfl,rfl,w0⟩:=open_string Tryz.underlying9 (hval 0 9 v0 rfl rfl) h0;clear hA0 hval0;simp only[qbW] at hW';obtain⟨E,hE,_⟩:=zic hL rfl rfl rfl rfl rfl rfl rfl rfl rfl rfl;have hT:=zig hL rfl rfl rfl rfl rfl;refine (zia x0 W E hE hT w0).mono λ e W' ⟨he,hB⟩=>?_;exact⟨_,he,znm pngReads_laidOk hW' rfl rfl (by kernel_rfl) rfl Tryz.underlying4 hB⟩
theorem pngReads_holds:Rows.PngReadsSaid:=
 OpenClaim.holds_of_wide 5 Tryz.f5 rfl rfl rfl rfl rfl rfl rfl ⟨rfl,rfl,rfl,rfl,rfl⟩ rfl rfl rfl rfl rfl (by kernel_rfl) Tryz.func5 (by kernel_rfl)
  (qaU (by kernel_rfl)) (by unfold Func.isWrapper;rw[qac (qa4 (by kernel_rfl))];exact⟨rfl,rfl⟩)
  (λ os started H enc _=>pngReads_lifted os started H enc)
theorem pngReads_card:Rows.PngReadsCardSaid:=
 Claim7.holds_tied_plain_at .later [] _ true _ _
  pngReads_holds (λ _ h=>by cases h) (by kernel_rfl) (λ _ h=>by cases h) pngReads_row_tie rfl ⟨rfl,rfl⟩ (by kernel_rfl) rfl
  (λ f fn hf hfn=>by
   obtain rfl : f = 5 := qb6 ((show Tryz.prog.funcNamed "layercake/layercakelaw2.PngReads" = some 5 by kernel_rfl).symm.trans hf) |>.symm
   obtain rfl:fn=Tryz.f5 :=(qb6 (Tryz.func5.symm.trans hfn)).symm;exact⟨by kernel_rfl,λ j t ht=>by
    rw[Tryz.params5] at ht;have hm:t∈ [9]:=by simpa using Array.mem_of_getElem? ht
    have hall:([9].all λ u=>!Tryz.prog.wantsStandIn u)=true:=by kernel_rfl
    exact (show Tryz.prog.wantsStandIn t=false by simpa using List.all_eq_true.1 hall t hm)⟩)
  (by kernel_rfl)
end Go.Proofs.YthlibiocadimhaaGreatDoor
