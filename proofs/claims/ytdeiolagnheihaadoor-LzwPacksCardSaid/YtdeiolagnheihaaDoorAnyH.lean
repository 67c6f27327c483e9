/- The world of a region that draws its order, under a name. No function of the program is named. -/
import Derived.Test.YtdeiolagnheihaaDoorBox
import Derived.Deep.RegionHeld3
import Derived.RegionTactic
namespace Go.Proofs.YtdeiolagnheihaaDoor
open Go.RowKit
theorem anyH_world {P : Program} {md : Region.Mode} {ops : Array Oper} {Q : Exit → Act → World → Prop} {S : World → Prop} {fuel : Nat} {listed : Array Bool} {a : Act} {W : World} (F : World → Prop) (h1 : F W) (h2 : ∀ wz, F wz → wpAnyH P md ops Q S fuel listed a wz) : wpAnyH P md ops Q S fuel listed a W := h2 W h1
end Go.Proofs.YtdeiolagnheihaaDoor
