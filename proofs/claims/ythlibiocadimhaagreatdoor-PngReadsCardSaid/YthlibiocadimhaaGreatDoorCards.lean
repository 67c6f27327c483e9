/-
  DERIVED. GIVEN WITH THE SEED: THE CARDS: each row of YthlibiocadimhaaGreatDoorRows.lean that lists a variable, with what it lists TIED to the program's text (the seventh form; the later family's looks); each row that meets fmt, with fmt's text TOLD by the authors' own Lean function (tested against real Go, not proved from fmt's source: count such statements apart). THE CARD IS WHAT COUNTS. Prove the row's statement (the work); the ties are given (YthlibiocadimhaaGreatDoorTie.lean); close each card by the builder's one call (the guide's Derived/Test/ToyasCard.lean, 'card_holds'). Laid BY PROGRAM, IN A SANDBOX (cutbox-door.mjs). By AI agents, Wed Nov 11 2026. No macro, syntax, notation, axiom, sorry.
-/
import Derived.Test.YthlibiocadimhaaGreatDoorRows
import GoSem.ClaimSeven
namespace Go.Proofs.YthlibiocadimhaaGreatDoor
namespace Rows

/-- THE TIED CARD OF 'layercakelaw2.PngTwice'. -/
def pngTwiceCard : Claim7 := { stood := { row := pngTwiceRow, standIns := [], harness := (true, "3656fef883bd1980b2626c9ed6d95453e20b9b6f3f473bc5bf11f60e862316da"), looks := true }, kinds := [], alts := [], laidByText := true, laidKinds := [.sentinel, .sentinel, .sentinel, .sentinel, .widerDeep, .data, .widerDeep, .data, .widerDeep], laidTests := true, laidLooks := .later }
def PngTwiceCardSaid : Prop := Claim7.holds Tryz.pinned (.plain (OpenSpec.ofChange pngTwiceSpec)) pngTwiceCard

/-- THE TIED CARD OF 'layercakelaw2.PngWrites'. -/
def pngWritesCard : Claim7 := { stood := { row := pngWritesRow, standIns := [], harness := (true, "3656fef883bd1980b2626c9ed6d95453e20b9b6f3f473bc5bf11f60e862316da"), looks := true }, kinds := [], alts := [], laidByText := true, laidKinds := [.handle, .sentinel, .sentinel, .sentinel, .sentinel, .sentinel, .sentinel, .sentinel, .sentinel, .sentinel, .widerDeep, .data, .widerDeep, .data, .widerDeep], laidTests := true, laidLooks := .later }
def PngWritesCardSaid : Prop := Claim7.holds Tryz.pinned (.plain (OpenSpec.ofChange pngWritesSpec)) pngWritesCard

/-- THE TIED CARD OF 'layercakelaw2.PngReads'. -/
def pngReadsCard : Claim7 := { stood := { row := pngReadsRow, standIns := [], harness := (true, "3656fef883bd1980b2626c9ed6d95453e20b9b6f3f473bc5bf11f60e862316da"), looks := true }, kinds := [], alts := [], laidByText := true, laidKinds := [.handle, .sentinel, .sentinel, .sentinel, .sentinel, .sentinel, .sentinel, .sentinel, .sentinel, .sentinel, .widerDeep, .data, .widerDeep, .data, .widerDeep], laidTests := true, laidLooks := .later }
def PngReadsCardSaid : Prop := Claim7.holds Tryz.pinned (.plain (OpenSpec.ofChange pngReadsSpec)) pngReadsCard

/-- THE SECOND FORM's CARD OF 'layercakelaw2.PngTwice'. -/
def pngTwiceUptoCard : Claim7 := { stood := { row := pngTwiceUptoRow, standIns := [], harness := (true, "3656fef883bd1980b2626c9ed6d95453e20b9b6f3f473bc5bf11f60e862316da"), looks := true }, kinds := [], alts := [], laidByText := true, laidKinds := [.sentinel, .sentinel, .sentinel, .sentinel, .widerDeep, .data, .widerDeep, .data, .widerDeep], laidTests := true, laidLooks := .later }
def PngTwiceUptoCardSaid : Prop := Claim7.holds Tryz.pinned (.plain (OpenSpec.upto pngTwiceSpec)) pngTwiceUptoCard

/-- THE SECOND FORM's CARD OF 'layercakelaw2.PngWrites'. -/
def pngWritesUptoCard : Claim7 := { stood := { row := pngWritesUptoRow, standIns := [], harness := (true, "3656fef883bd1980b2626c9ed6d95453e20b9b6f3f473bc5bf11f60e862316da"), looks := true }, kinds := [], alts := [], laidByText := true, laidKinds := [.handle, .sentinel, .sentinel, .sentinel, .sentinel, .sentinel, .sentinel, .sentinel, .sentinel, .sentinel, .widerDeep, .data, .widerDeep, .data, .widerDeep], laidTests := true, laidLooks := .later }
def PngWritesUptoCardSaid : Prop := Claim7.holds Tryz.pinned (.plain (OpenSpec.upto pngWritesSpec)) pngWritesUptoCard

/-- THE SECOND FORM's CARD OF 'layercakelaw2.PngReads'. -/
def pngReadsUptoCard : Claim7 := { stood := { row := pngReadsUptoRow, standIns := [], harness := (true, "3656fef883bd1980b2626c9ed6d95453e20b9b6f3f473bc5bf11f60e862316da"), looks := true }, kinds := [], alts := [], laidByText := true, laidKinds := [.handle, .sentinel, .sentinel, .sentinel, .sentinel, .sentinel, .sentinel, .sentinel, .sentinel, .sentinel, .widerDeep, .data, .widerDeep, .data, .widerDeep], laidTests := true, laidLooks := .later }
def PngReadsUptoCardSaid : Prop := Claim7.holds Tryz.pinned (.plain (OpenSpec.upto pngReadsSpec)) pngReadsUptoCard
end Rows
end Go.Proofs.YthlibiocadimhaaGreatDoor
