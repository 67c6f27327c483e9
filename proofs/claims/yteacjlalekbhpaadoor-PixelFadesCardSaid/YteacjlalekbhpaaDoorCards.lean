/-
  DERIVED. GIVEN WITH THE SEED: THE CARDS: each row of YteacjlalekbhpaaDoorRows.lean that lists a variable, with what it lists TIED to the program's text (the seventh form; the later family's looks); each row that meets fmt, with fmt's text TOLD by the authors' own Lean function (tested against real Go, not proved from fmt's source: count such statements apart). THE CARD IS WHAT COUNTS. Prove the row's statement (the work); the ties are given (YteacjlalekbhpaaDoorTie.lean); close each card by the builder's one call (the guide's Derived/Test/ToyasCard.lean, 'card_holds'). Laid BY PROGRAM, IN A SANDBOX (cutbox-door.mjs). By AI agents, Wed Nov 11 2026. No macro, syntax, notation, axiom, sorry.
-/
import Derived.Test.YteacjlalekbhpaaDoorRows
import GoSem.ClaimSeven
namespace Go.Proofs.YteacjlalekbhpaaDoor
namespace Rows

/-- THE TIED CARD OF 'layercakelaw1.SumAdds'. -/
def sumAddsCard : Claim7 := { stood := { row := sumAddsRow, standIns := [], harness := (true, "cbba411e4866c0cfbdd8a32528528ed7c6f4e9c9ab47fd6dd9f0160959ad13a5"), looks := true }, kinds := [], alts := [], laidByText := true, laidKinds := [.sentinel], laidTests := true, laidLooks := .later }
def SumAddsCardSaid : Prop := Claim7.holds Tryd.pinned (.plain (OpenSpec.ofChange sumAddsSpec)) sumAddsCard

/-- THE TIED CARD OF 'layercakelaw1.SumJoins'. -/
def sumJoinsCard : Claim7 := { stood := { row := sumJoinsRow, standIns := [], harness := (true, "cbba411e4866c0cfbdd8a32528528ed7c6f4e9c9ab47fd6dd9f0160959ad13a5"), looks := true }, kinds := [], alts := [], laidByText := true, laidKinds := [.handle, .sentinel, .sentinel, .sentinel, .sentinel, .sentinel, .sentinel, .sentinel, .sentinel, .sentinel], laidTests := true, laidLooks := .later }
def SumJoinsCardSaid : Prop := Claim7.holds Tryd.pinned (.plain (OpenSpec.ofChange sumJoinsSpec)) sumJoinsCard

/-- THE TIED CARD OF 'layercakelaw2.PixelStill'. -/
def pixelStillCard : Claim7 := { stood := { row := pixelStillRow, standIns := [], harness := (true, "cbba411e4866c0cfbdd8a32528528ed7c6f4e9c9ab47fd6dd9f0160959ad13a5"), looks := true }, kinds := [], alts := [], laidByText := true, laidKinds := [.sentinel], laidTests := true, laidLooks := .later }
def PixelStillCardSaid : Prop := Claim7.holds Tryd.pinned (.plain (OpenSpec.ofChange pixelStillSpec)) pixelStillCard

/-- THE TIED CARD OF 'layercakelaw2.PixelCovers'. -/
def pixelCoversCard : Claim7 := { stood := { row := pixelCoversRow, standIns := [], harness := (true, "cbba411e4866c0cfbdd8a32528528ed7c6f4e9c9ab47fd6dd9f0160959ad13a5"), looks := true }, kinds := [], alts := [], laidByText := true, laidKinds := [.sentinel], laidTests := true, laidLooks := .later }
def PixelCoversCardSaid : Prop := Claim7.holds Tryd.pinned (.plain (OpenSpec.ofChange pixelCoversSpec)) pixelCoversCard

/-- THE TIED CARD OF 'layercakelaw2.PixelOver'. -/
def pixelOverCard : Claim7 := { stood := { row := pixelOverRow, standIns := [], harness := (true, "cbba411e4866c0cfbdd8a32528528ed7c6f4e9c9ab47fd6dd9f0160959ad13a5"), looks := true }, kinds := [], alts := [], laidByText := true, laidKinds := [.handle, .sentinel, .sentinel, .sentinel, .sentinel, .sentinel, .sentinel, .sentinel, .sentinel, .sentinel], laidTests := true, laidLooks := .later }
def PixelOverCardSaid : Prop := Claim7.holds Tryd.pinned (.plain (OpenSpec.ofChange pixelOverSpec)) pixelOverCard

/-- THE TIED CARD OF 'layercakelaw2.PixelFades'. -/
def pixelFadesCard : Claim7 := { stood := { row := pixelFadesRow, standIns := [], harness := (true, "cbba411e4866c0cfbdd8a32528528ed7c6f4e9c9ab47fd6dd9f0160959ad13a5"), looks := true }, kinds := [], alts := [], laidByText := true, laidKinds := [.data, .data, .data, .handle, .sentinel, .sentinel, .sentinel, .sentinel, .sentinel, .sentinel, .sentinel, .sentinel, .sentinel, .sentinel, .sentinel], laidTests := true, laidLooks := .later }
def PixelFadesCardSaid : Prop := Claim7.holds Tryd.pinned (.plain (OpenSpec.ofChange pixelFadesSpec)) pixelFadesCard

/-- THE SECOND FORM's CARD OF 'layercakelaw1.SumAdds'. -/
def sumAddsUptoCard : Claim7 := { stood := { row := sumAddsUptoRow, standIns := [], harness := (true, "cbba411e4866c0cfbdd8a32528528ed7c6f4e9c9ab47fd6dd9f0160959ad13a5"), looks := true }, kinds := [], alts := [], laidByText := true, laidKinds := [.sentinel], laidTests := true, laidLooks := .later }
def SumAddsUptoCardSaid : Prop := Claim7.holds Tryd.pinned (.plain (OpenSpec.upto sumAddsSpec)) sumAddsUptoCard

/-- THE SECOND FORM's CARD OF 'layercakelaw1.SumJoins'. -/
def sumJoinsUptoCard : Claim7 := { stood := { row := sumJoinsUptoRow, standIns := [], harness := (true, "cbba411e4866c0cfbdd8a32528528ed7c6f4e9c9ab47fd6dd9f0160959ad13a5"), looks := true }, kinds := [], alts := [], laidByText := true, laidKinds := [.handle, .sentinel, .sentinel, .sentinel, .sentinel, .sentinel, .sentinel, .sentinel, .sentinel, .sentinel], laidTests := true, laidLooks := .later }
def SumJoinsUptoCardSaid : Prop := Claim7.holds Tryd.pinned (.plain (OpenSpec.upto sumJoinsSpec)) sumJoinsUptoCard

/-- THE SECOND FORM's CARD OF 'layercakelaw2.PixelStill'. -/
def pixelStillUptoCard : Claim7 := { stood := { row := pixelStillUptoRow, standIns := [], harness := (true, "cbba411e4866c0cfbdd8a32528528ed7c6f4e9c9ab47fd6dd9f0160959ad13a5"), looks := true }, kinds := [], alts := [], laidByText := true, laidKinds := [.sentinel], laidTests := true, laidLooks := .later }
def PixelStillUptoCardSaid : Prop := Claim7.holds Tryd.pinned (.plain (OpenSpec.upto pixelStillSpec)) pixelStillUptoCard

/-- THE SECOND FORM's CARD OF 'layercakelaw2.PixelCovers'. -/
def pixelCoversUptoCard : Claim7 := { stood := { row := pixelCoversUptoRow, standIns := [], harness := (true, "cbba411e4866c0cfbdd8a32528528ed7c6f4e9c9ab47fd6dd9f0160959ad13a5"), looks := true }, kinds := [], alts := [], laidByText := true, laidKinds := [.sentinel], laidTests := true, laidLooks := .later }
def PixelCoversUptoCardSaid : Prop := Claim7.holds Tryd.pinned (.plain (OpenSpec.upto pixelCoversSpec)) pixelCoversUptoCard

/-- THE SECOND FORM's CARD OF 'layercakelaw2.PixelOver'. -/
def pixelOverUptoCard : Claim7 := { stood := { row := pixelOverUptoRow, standIns := [], harness := (true, "cbba411e4866c0cfbdd8a32528528ed7c6f4e9c9ab47fd6dd9f0160959ad13a5"), looks := true }, kinds := [], alts := [], laidByText := true, laidKinds := [.handle, .sentinel, .sentinel, .sentinel, .sentinel, .sentinel, .sentinel, .sentinel, .sentinel, .sentinel], laidTests := true, laidLooks := .later }
def PixelOverUptoCardSaid : Prop := Claim7.holds Tryd.pinned (.plain (OpenSpec.upto pixelOverSpec)) pixelOverUptoCard

/-- THE SECOND FORM's CARD OF 'layercakelaw2.PixelFades'. -/
def pixelFadesUptoCard : Claim7 := { stood := { row := pixelFadesUptoRow, standIns := [], harness := (true, "cbba411e4866c0cfbdd8a32528528ed7c6f4e9c9ab47fd6dd9f0160959ad13a5"), looks := true }, kinds := [], alts := [], laidByText := true, laidKinds := [.data, .data, .data, .handle, .sentinel, .sentinel, .sentinel, .sentinel, .sentinel, .sentinel, .sentinel, .sentinel, .sentinel, .sentinel, .sentinel], laidTests := true, laidLooks := .later }
def PixelFadesUptoCardSaid : Prop := Claim7.holds Tryd.pinned (.plain (OpenSpec.upto pixelFadesSpec)) pixelFadesUptoCard
end Rows
end Go.Proofs.YteacjlalekbhpaaDoor
