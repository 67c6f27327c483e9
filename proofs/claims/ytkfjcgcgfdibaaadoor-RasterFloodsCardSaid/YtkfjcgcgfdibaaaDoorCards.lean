/-
  DERIVED. GIVEN WITH THE SEED: THE CARDS: each row of YtkfjcgcgfdibaaaDoorRows.lean that lists a variable, with what it lists TIED to the program's text (the seventh form; the later family's looks); each row that meets fmt, with fmt's text TOLD by the authors' own Lean function (tested against real Go, not proved from fmt's source: count such statements apart). THE CARD IS WHAT COUNTS. Prove the row's statement (the work); the ties are given (YtkfjcgcgfdibaaaDoorTie.lean); close each card by the builder's one call (the guide's Derived/Test/ToyasCard.lean, 'card_holds'). Laid BY PROGRAM, IN A SANDBOX (cutbox-door.mjs). By AI agents, Wed Nov 11 2026. No macro, syntax, notation, axiom, sorry.
-/
import Derived.Test.YtkfjcgcgfdibaaaDoorRows
import GoSem.ClaimSeven
namespace Go.Proofs.YtkfjcgcgfdibaaaDoor
namespace Rows

/-- THE TIED CARD OF 'layercakelaw2.RasterBack'. -/
def rasterBackCard : Claim7 := { stood := { row := rasterBackRow, standIns := [], harness := (true, "9924683e229d4f00053c694e85fe52e7e3ec28d93521f14ccd4df5b2604922e7"), looks := true }, kinds := [], alts := [], laidByText := true, laidKinds := [.sentinel, .sentinel], laidTests := true, laidLooks := .later }
def RasterBackCardSaid : Prop := Claim7.holds Tryd.pinned (.plain (OpenSpec.ofChange rasterBackSpec)) rasterBackCard

/-- THE TIED CARD OF 'layercakelaw2.RasterNew'. -/
def rasterNewCard : Claim7 := { stood := { row := rasterNewRow, standIns := [], harness := (true, "9924683e229d4f00053c694e85fe52e7e3ec28d93521f14ccd4df5b2604922e7"), looks := true }, kinds := [], alts := [], laidByText := true, laidKinds := [.handle, .sentinel, .sentinel, .sentinel, .sentinel, .sentinel, .sentinel, .sentinel, .sentinel, .sentinel], laidTests := true, laidLooks := .later }
def RasterNewCardSaid : Prop := Claim7.holds Tryd.pinned (.plain (OpenSpec.ofChange rasterNewSpec)) rasterNewCard

/-- THE TIED CARD OF 'layercakelaw2.RasterParts'. -/
def rasterPartsCard : Claim7 := { stood := { row := rasterPartsRow, standIns := [], harness := (true, "9924683e229d4f00053c694e85fe52e7e3ec28d93521f14ccd4df5b2604922e7"), looks := true }, kinds := [], alts := [], laidByText := true, laidKinds := [.handle, .sentinel, .sentinel, .sentinel, .sentinel, .sentinel, .sentinel, .sentinel, .sentinel, .sentinel], laidTests := true, laidLooks := .later }
def RasterPartsCardSaid : Prop := Claim7.holds Tryd.pinned (.plain (OpenSpec.ofChange rasterPartsSpec)) rasterPartsCard

/-- THE TIED CARD OF 'layercakelaw2.RasterFloods'. -/
def rasterFloodsCard : Claim7 := { stood := { row := rasterFloodsRow, standIns := [], harness := (true, "9924683e229d4f00053c694e85fe52e7e3ec28d93521f14ccd4df5b2604922e7"), looks := true }, kinds := [], alts := [], laidByText := true, laidKinds := [.handle, .sentinel, .sentinel, .sentinel, .sentinel, .sentinel, .sentinel, .sentinel, .sentinel, .sentinel], laidTests := true, laidLooks := .later }
def RasterFloodsCardSaid : Prop := Claim7.holds Tryd.pinned (.plain (OpenSpec.ofChange rasterFloodsSpec)) rasterFloodsCard

/-- THE TIED CARD OF 'layercakelaw2.RasterLines'. -/
def rasterLinesCard : Claim7 := { stood := { row := rasterLinesRow, standIns := [], harness := (true, "9924683e229d4f00053c694e85fe52e7e3ec28d93521f14ccd4df5b2604922e7"), looks := true }, kinds := [], alts := [], laidByText := true, laidKinds := [.handle, .sentinel, .sentinel, .sentinel, .sentinel, .sentinel, .sentinel, .sentinel, .sentinel, .sentinel], laidTests := true, laidLooks := .later }
def RasterLinesCardSaid : Prop := Claim7.holds Tryd.pinned (.plain (OpenSpec.ofChange rasterLinesSpec)) rasterLinesCard

/-- THE TIED CARD OF 'layercakelaw2.RasterStamps'. -/
def rasterStampsCard : Claim7 := { stood := { row := rasterStampsRow, standIns := [], harness := (true, "9924683e229d4f00053c694e85fe52e7e3ec28d93521f14ccd4df5b2604922e7"), looks := true }, kinds := [], alts := [], laidByText := true, laidKinds := [.handle, .sentinel, .sentinel, .sentinel, .sentinel, .sentinel, .sentinel, .sentinel, .sentinel, .sentinel], laidTests := true, laidLooks := .later }
def RasterStampsCardSaid : Prop := Claim7.holds Tryd.pinned (.plain (OpenSpec.ofChange rasterStampsSpec)) rasterStampsCard

/-- THE TIED CARD OF 'layercakelaw2.RasterTurns'. -/
def rasterTurnsCard : Claim7 := { stood := { row := rasterTurnsRow, standIns := [], harness := (true, "9924683e229d4f00053c694e85fe52e7e3ec28d93521f14ccd4df5b2604922e7"), looks := true }, kinds := [], alts := [], laidByText := true, laidKinds := [.handle, .sentinel, .sentinel, .sentinel, .sentinel, .sentinel, .sentinel, .sentinel, .sentinel, .sentinel], laidTests := true, laidLooks := .later }
def RasterTurnsCardSaid : Prop := Claim7.holds Tryd.pinned (.plain (OpenSpec.ofChange rasterTurnsSpec)) rasterTurnsCard

/-- THE TIED CARD OF 'layercakelaw2.ChunkTurned'. -/
def chunkTurnedCard : Claim7 := { stood := { row := chunkTurnedRow, standIns := [], harness := (true, "9924683e229d4f00053c694e85fe52e7e3ec28d93521f14ccd4df5b2604922e7"), looks := true }, kinds := [], alts := [], laidByText := true, laidKinds := [.sentinel, .sentinel, .sentinel, .sentinel], laidTests := true, laidLooks := .later }
def ChunkTurnedCardSaid : Prop := Claim7.holds Tryd.pinned (.plain (OpenSpec.ofChange chunkTurnedSpec)) chunkTurnedCard

/-- THE TIED CARD OF 'layercakelaw2.ChunkWrites'. -/
def chunkWritesCard : Claim7 := { stood := { row := chunkWritesRow, standIns := [], harness := (true, "9924683e229d4f00053c694e85fe52e7e3ec28d93521f14ccd4df5b2604922e7"), looks := true }, kinds := [], alts := [], laidByText := true, laidKinds := [.handle, .sentinel, .sentinel, .sentinel, .sentinel, .sentinel, .sentinel, .sentinel, .sentinel, .sentinel], laidTests := true, laidLooks := .later }
def ChunkWritesCardSaid : Prop := Claim7.holds Tryd.pinned (.plain (OpenSpec.ofChange chunkWritesSpec)) chunkWritesCard

/-- THE TIED CARD OF 'layercakelaw2.ChunkReads'. -/
def chunkReadsCard : Claim7 := { stood := { row := chunkReadsRow, standIns := [], harness := (true, "9924683e229d4f00053c694e85fe52e7e3ec28d93521f14ccd4df5b2604922e7"), looks := true }, kinds := [], alts := [], laidByText := true, laidKinds := [.handle, .sentinel, .sentinel, .sentinel, .sentinel, .sentinel, .sentinel, .sentinel, .sentinel, .sentinel], laidTests := true, laidLooks := .later }
def ChunkReadsCardSaid : Prop := Claim7.holds Tryd.pinned (.plain (OpenSpec.ofChange chunkReadsSpec)) chunkReadsCard

/-- THE SECOND FORM's CARD OF 'layercakelaw2.RasterBack'. -/
def rasterBackUptoCard : Claim7 := { stood := { row := rasterBackUptoRow, standIns := [], harness := (true, "9924683e229d4f00053c694e85fe52e7e3ec28d93521f14ccd4df5b2604922e7"), looks := true }, kinds := [], alts := [], laidByText := true, laidKinds := [.sentinel, .sentinel], laidTests := true, laidLooks := .later }
def RasterBackUptoCardSaid : Prop := Claim7.holds Tryd.pinned (.plain (OpenSpec.upto rasterBackSpec)) rasterBackUptoCard

/-- THE SECOND FORM's CARD OF 'layercakelaw2.RasterNew'. -/
def rasterNewUptoCard : Claim7 := { stood := { row := rasterNewUptoRow, standIns := [], harness := (true, "9924683e229d4f00053c694e85fe52e7e3ec28d93521f14ccd4df5b2604922e7"), looks := true }, kinds := [], alts := [], laidByText := true, laidKinds := [.handle, .sentinel, .sentinel, .sentinel, .sentinel, .sentinel, .sentinel, .sentinel, .sentinel, .sentinel], laidTests := true, laidLooks := .later }
def RasterNewUptoCardSaid : Prop := Claim7.holds Tryd.pinned (.plain (OpenSpec.upto rasterNewSpec)) rasterNewUptoCard

/-- THE SECOND FORM's CARD OF 'layercakelaw2.RasterParts'. -/
def rasterPartsUptoCard : Claim7 := { stood := { row := rasterPartsUptoRow, standIns := [], harness := (true, "9924683e229d4f00053c694e85fe52e7e3ec28d93521f14ccd4df5b2604922e7"), looks := true }, kinds := [], alts := [], laidByText := true, laidKinds := [.handle, .sentinel, .sentinel, .sentinel, .sentinel, .sentinel, .sentinel, .sentinel, .sentinel, .sentinel], laidTests := true, laidLooks := .later }
def RasterPartsUptoCardSaid : Prop := Claim7.holds Tryd.pinned (.plain (OpenSpec.upto rasterPartsSpec)) rasterPartsUptoCard

/-- THE SECOND FORM's CARD OF 'layercakelaw2.RasterFloods'. -/
def rasterFloodsUptoCard : Claim7 := { stood := { row := rasterFloodsUptoRow, standIns := [], harness := (true, "9924683e229d4f00053c694e85fe52e7e3ec28d93521f14ccd4df5b2604922e7"), looks := true }, kinds := [], alts := [], laidByText := true, laidKinds := [.handle, .sentinel, .sentinel, .sentinel, .sentinel, .sentinel, .sentinel, .sentinel, .sentinel, .sentinel], laidTests := true, laidLooks := .later }
def RasterFloodsUptoCardSaid : Prop := Claim7.holds Tryd.pinned (.plain (OpenSpec.upto rasterFloodsSpec)) rasterFloodsUptoCard

/-- THE SECOND FORM's CARD OF 'layercakelaw2.RasterLines'. -/
def rasterLinesUptoCard : Claim7 := { stood := { row := rasterLinesUptoRow, standIns := [], harness := (true, "9924683e229d4f00053c694e85fe52e7e3ec28d93521f14ccd4df5b2604922e7"), looks := true }, kinds := [], alts := [], laidByText := true, laidKinds := [.handle, .sentinel, .sentinel, .sentinel, .sentinel, .sentinel, .sentinel, .sentinel, .sentinel, .sentinel], laidTests := true, laidLooks := .later }
def RasterLinesUptoCardSaid : Prop := Claim7.holds Tryd.pinned (.plain (OpenSpec.upto rasterLinesSpec)) rasterLinesUptoCard

/-- THE SECOND FORM's CARD OF 'layercakelaw2.RasterStamps'. -/
def rasterStampsUptoCard : Claim7 := { stood := { row := rasterStampsUptoRow, standIns := [], harness := (true, "9924683e229d4f00053c694e85fe52e7e3ec28d93521f14ccd4df5b2604922e7"), looks := true }, kinds := [], alts := [], laidByText := true, laidKinds := [.handle, .sentinel, .sentinel, .sentinel, .sentinel, .sentinel, .sentinel, .sentinel, .sentinel, .sentinel], laidTests := true, laidLooks := .later }
def RasterStampsUptoCardSaid : Prop := Claim7.holds Tryd.pinned (.plain (OpenSpec.upto rasterStampsSpec)) rasterStampsUptoCard

/-- THE SECOND FORM's CARD OF 'layercakelaw2.RasterTurns'. -/
def rasterTurnsUptoCard : Claim7 := { stood := { row := rasterTurnsUptoRow, standIns := [], harness := (true, "9924683e229d4f00053c694e85fe52e7e3ec28d93521f14ccd4df5b2604922e7"), looks := true }, kinds := [], alts := [], laidByText := true, laidKinds := [.handle, .sentinel, .sentinel, .sentinel, .sentinel, .sentinel, .sentinel, .sentinel, .sentinel, .sentinel], laidTests := true, laidLooks := .later }
def RasterTurnsUptoCardSaid : Prop := Claim7.holds Tryd.pinned (.plain (OpenSpec.upto rasterTurnsSpec)) rasterTurnsUptoCard

/-- THE SECOND FORM's CARD OF 'layercakelaw2.ChunkTurned'. -/
def chunkTurnedUptoCard : Claim7 := { stood := { row := chunkTurnedUptoRow, standIns := [], harness := (true, "9924683e229d4f00053c694e85fe52e7e3ec28d93521f14ccd4df5b2604922e7"), looks := true }, kinds := [], alts := [], laidByText := true, laidKinds := [.sentinel, .sentinel, .sentinel, .sentinel], laidTests := true, laidLooks := .later }
def ChunkTurnedUptoCardSaid : Prop := Claim7.holds Tryd.pinned (.plain (OpenSpec.upto chunkTurnedSpec)) chunkTurnedUptoCard

/-- THE SECOND FORM's CARD OF 'layercakelaw2.ChunkWrites'. -/
def chunkWritesUptoCard : Claim7 := { stood := { row := chunkWritesUptoRow, standIns := [], harness := (true, "9924683e229d4f00053c694e85fe52e7e3ec28d93521f14ccd4df5b2604922e7"), looks := true }, kinds := [], alts := [], laidByText := true, laidKinds := [.handle, .sentinel, .sentinel, .sentinel, .sentinel, .sentinel, .sentinel, .sentinel, .sentinel, .sentinel], laidTests := true, laidLooks := .later }
def ChunkWritesUptoCardSaid : Prop := Claim7.holds Tryd.pinned (.plain (OpenSpec.upto chunkWritesSpec)) chunkWritesUptoCard

/-- THE SECOND FORM's CARD OF 'layercakelaw2.ChunkReads'. -/
def chunkReadsUptoCard : Claim7 := { stood := { row := chunkReadsUptoRow, standIns := [], harness := (true, "9924683e229d4f00053c694e85fe52e7e3ec28d93521f14ccd4df5b2604922e7"), looks := true }, kinds := [], alts := [], laidByText := true, laidKinds := [.handle, .sentinel, .sentinel, .sentinel, .sentinel, .sentinel, .sentinel, .sentinel, .sentinel, .sentinel], laidTests := true, laidLooks := .later }
def ChunkReadsUptoCardSaid : Prop := Claim7.holds Tryd.pinned (.plain (OpenSpec.upto chunkReadsSpec)) chunkReadsUptoCard
end Rows
end Go.Proofs.YtkfjcgcgfdibaaaDoor
