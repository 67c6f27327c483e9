/-
  All that png's functions call.
-/
import Derived.Test.YthlibiocadimhaaGreatDoorPngReadsG27
import Derived.Test.YthlibiocadimhaaGreatDoorPngReadsG25
import Derived.Test.YthlibiocadimhaaGreatDoorPngReadsG12
import Derived.Test.YthlibiocadimhaaGreatDoorPngReadsG11
set_option linter.all false
set_option maxRecDepth 100000
namespace Go.Proofs.YthlibiocadimhaaGreatDoor
end Go.Proofs.YthlibiocadimhaaGreatDoor
