/- Pixels as four numbers. No function of the program is named. -/
import Derived.Test.YtkfjcgcgfdibaaaDoorPix
import Derived.Test.YtkfjcgcgfdibaaaDoorMem
namespace Go.Proofs.YtkfjcgcgfdibaaaDoor
open Go.RowKit
abbrev pixv (r g b a : Int) : Value := .agg #[.int .u8 r, .int .u8 g, .int .u8 b, .int .u8 a]
structure P4 where
  r : Int
  g : Int
  b : Int
  a : Int
def P4.val (p : P4) : Value := pixv p.r p.g p.b p.a
structure P4.Ok (p : P4) : Prop where
  r : Pix.Byte p.r
  g : Pix.Byte p.g
  b : Pix.Byte p.b
  a : Pix.Byte p.a
def P4.zero : P4 := ⟨0, 0, 0, 0⟩
theorem P4.zero_ok : P4.zero.Ok := ⟨⟨by decide, by decide⟩, ⟨by decide, by decide⟩, ⟨by decide, by decide⟩, ⟨by decide, by decide⟩⟩
end Go.Proofs.YtkfjcgcgfdibaaaDoor
