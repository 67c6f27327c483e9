/-
  DERIVED. GIVEN WITH THE SEED: THE CARDS: each row of YtnhbjgmfbcedaaaDoorRows.lean that lists a variable, with what it lists TIED to the program's text (the seventh form; the later family's looks); each row that meets fmt, with fmt's text TOLD by the authors' own Lean function (tested against real Go, not proved from fmt's source: count such statements apart). THE CARD IS WHAT COUNTS. Prove the row's statement (the work); the ties are given (YtnhbjgmfbcedaaaDoorTie.lean); close each card by the builder's one call (the guide's Derived/Test/ToyasCard.lean, 'card_holds'). Laid BY PROGRAM, IN A SANDBOX (cutbox-door.mjs). By AI agents, Wed Nov 11 2026. No macro, syntax, notation, axiom, sorry.
-/
import Derived.Test.YtnhbjgmfbcedaaaDoorRows
import GoSem.ClaimSeven
namespace Go.Proofs.YtnhbjgmfbcedaaaDoor
namespace Rows

/-- THE TIED CARD OF 'layercakelaw1.DeflateStored'. -/
def deflateStoredCard : Claim7 := { stood := { row := deflateStoredRow, standIns := [], harness := (true, "10cf9adc4aa311c1a2681be1db78b0f6d76a76bafd065efa74e08656391c5acc"), looks := true }, kinds := [], alts := [], laidByText := true, laidKinds := [.sentinel, .sentinel, .sentinel, .widerDeep, .data, .widerDeep, .data, .widerDeep], laidTests := true, laidLooks := .later }
def DeflateStoredCardSaid : Prop := Claim7.holds Tryd.pinned (.plain (OpenSpec.ofChange deflateStoredSpec)) deflateStoredCard

/-- THE TIED CARD OF 'layercakelaw1.InflateTells'. -/
def inflateTellsCard : Claim7 := { stood := { row := inflateTellsRow, standIns := [], harness := (true, "10cf9adc4aa311c1a2681be1db78b0f6d76a76bafd065efa74e08656391c5acc"), looks := true }, kinds := [], alts := [], laidByText := true, laidKinds := [.handle, .sentinel, .sentinel, .sentinel, .sentinel, .sentinel, .sentinel, .sentinel, .sentinel, .sentinel, .widerDeep, .data, .widerDeep, .data, .widerDeep], laidTests := true, laidLooks := .later }
def InflateTellsCardSaid : Prop := Claim7.holds Tryd.pinned (.plain (OpenSpec.ofChange inflateTellsSpec)) inflateTellsCard

/-- THE TIED CARD OF 'layercakelaw1.InflateMost'. -/
def inflateMostCard : Claim7 := { stood := { row := inflateMostRow, standIns := [], harness := (true, "10cf9adc4aa311c1a2681be1db78b0f6d76a76bafd065efa74e08656391c5acc"), looks := true }, kinds := [], alts := [], laidByText := true, laidKinds := [.handle, .sentinel, .sentinel, .sentinel, .sentinel, .sentinel, .sentinel, .sentinel, .sentinel, .sentinel, .widerDeep, .data, .widerDeep, .data, .widerDeep], laidTests := true, laidLooks := .later }
def InflateMostCardSaid : Prop := Claim7.holds Tryd.pinned (.plain (OpenSpec.ofChange inflateMostSpec)) inflateMostCard

/-- THE TIED CARD OF 'layercakelaw1.UnzipTells'. -/
def unzipTellsCard : Claim7 := { stood := { row := unzipTellsRow, standIns := [], harness := (true, "10cf9adc4aa311c1a2681be1db78b0f6d76a76bafd065efa74e08656391c5acc"), looks := true }, kinds := [], alts := [], laidByText := true, laidKinds := [.handle, .sentinel, .sentinel, .sentinel, .sentinel, .sentinel, .sentinel, .sentinel, .sentinel, .sentinel, .widerDeep, .data, .widerDeep, .data, .widerDeep], laidTests := true, laidLooks := .later }
def UnzipTellsCardSaid : Prop := Claim7.holds Tryd.pinned (.plain (OpenSpec.ofChange unzipTellsSpec)) unzipTellsCard

/-- THE TIED CARD OF 'layercakelaw1.DeflatePacks'. -/
def deflatePacksCard : Claim7 := { stood := { row := deflatePacksRow, standIns := [], harness := (true, "10cf9adc4aa311c1a2681be1db78b0f6d76a76bafd065efa74e08656391c5acc"), looks := true }, kinds := [], alts := [], laidByText := true, laidKinds := [.sentinel, .sentinel, .widerDeep, .data, .widerDeep, .data, .widerDeep], laidTests := true, laidLooks := .later }
def DeflatePacksCardSaid : Prop := Claim7.holds Tryd.pinned (.plain (OpenSpec.ofChange deflatePacksSpec)) deflatePacksCard

/-- THE TIED CARD OF 'layercakelaw1.DeflateFixed'. -/
def deflateFixedCard : Claim7 := { stood := { row := deflateFixedRow, standIns := [], harness := (true, "10cf9adc4aa311c1a2681be1db78b0f6d76a76bafd065efa74e08656391c5acc"), looks := true }, kinds := [], alts := [], laidByText := true, laidKinds := [.handle, .sentinel, .sentinel, .sentinel, .sentinel, .sentinel, .sentinel, .sentinel, .sentinel, .sentinel, .widerDeep, .data, .widerDeep, .data, .widerDeep], laidTests := true, laidLooks := .later }
def DeflateFixedCardSaid : Prop := Claim7.holds Tryd.pinned (.plain (OpenSpec.ofChange deflateFixedSpec)) deflateFixedCard

/-- THE TIED CARD OF 'layercakelaw1.DeflateDynamic'. -/
def deflateDynamicCard : Claim7 := { stood := { row := deflateDynamicRow, standIns := [], harness := (true, "10cf9adc4aa311c1a2681be1db78b0f6d76a76bafd065efa74e08656391c5acc"), looks := true }, kinds := [], alts := [], laidByText := true, laidKinds := [.handle, .sentinel, .sentinel, .sentinel, .sentinel, .sentinel, .sentinel, .sentinel, .sentinel, .sentinel, .widerDeep, .data, .widerDeep, .data, .widerDeep], laidTests := true, laidLooks := .later }
def DeflateDynamicCardSaid : Prop := Claim7.holds Tryd.pinned (.plain (OpenSpec.ofChange deflateDynamicSpec)) deflateDynamicCard

/-- THE TIED CARD OF 'layercakelaw1.DeflateTwice'. -/
def deflateTwiceCard : Claim7 := { stood := { row := deflateTwiceRow, standIns := [], harness := (true, "10cf9adc4aa311c1a2681be1db78b0f6d76a76bafd065efa74e08656391c5acc"), looks := true }, kinds := [], alts := [], laidByText := true, laidKinds := [.sentinel, .sentinel, .sentinel, .sentinel, .widerDeep, .data, .widerDeep, .data, .widerDeep], laidTests := true, laidLooks := .later }
def DeflateTwiceCardSaid : Prop := Claim7.holds Tryd.pinned (.plain (OpenSpec.ofChange deflateTwiceSpec)) deflateTwiceCard

/-- THE SECOND FORM's CARD OF 'layercakelaw1.DeflateStored'. -/
def deflateStoredUptoCard : Claim7 := { stood := { row := deflateStoredUptoRow, standIns := [], harness := (true, "10cf9adc4aa311c1a2681be1db78b0f6d76a76bafd065efa74e08656391c5acc"), looks := true }, kinds := [], alts := [], laidByText := true, laidKinds := [.sentinel, .sentinel, .sentinel, .widerDeep, .data, .widerDeep, .data, .widerDeep], laidTests := true, laidLooks := .later }
def DeflateStoredUptoCardSaid : Prop := Claim7.holds Tryd.pinned (.plain (OpenSpec.upto deflateStoredSpec)) deflateStoredUptoCard

/-- THE SECOND FORM's CARD OF 'layercakelaw1.InflateTells'. -/
def inflateTellsUptoCard : Claim7 := { stood := { row := inflateTellsUptoRow, standIns := [], harness := (true, "10cf9adc4aa311c1a2681be1db78b0f6d76a76bafd065efa74e08656391c5acc"), looks := true }, kinds := [], alts := [], laidByText := true, laidKinds := [.handle, .sentinel, .sentinel, .sentinel, .sentinel, .sentinel, .sentinel, .sentinel, .sentinel, .sentinel, .widerDeep, .data, .widerDeep, .data, .widerDeep], laidTests := true, laidLooks := .later }
def InflateTellsUptoCardSaid : Prop := Claim7.holds Tryd.pinned (.plain (OpenSpec.upto inflateTellsSpec)) inflateTellsUptoCard

/-- THE SECOND FORM's CARD OF 'layercakelaw1.InflateMost'. -/
def inflateMostUptoCard : Claim7 := { stood := { row := inflateMostUptoRow, standIns := [], harness := (true, "10cf9adc4aa311c1a2681be1db78b0f6d76a76bafd065efa74e08656391c5acc"), looks := true }, kinds := [], alts := [], laidByText := true, laidKinds := [.handle, .sentinel, .sentinel, .sentinel, .sentinel, .sentinel, .sentinel, .sentinel, .sentinel, .sentinel, .widerDeep, .data, .widerDeep, .data, .widerDeep], laidTests := true, laidLooks := .later }
def InflateMostUptoCardSaid : Prop := Claim7.holds Tryd.pinned (.plain (OpenSpec.upto inflateMostSpec)) inflateMostUptoCard

/-- THE SECOND FORM's CARD OF 'layercakelaw1.UnzipTells'. -/
def unzipTellsUptoCard : Claim7 := { stood := { row := unzipTellsUptoRow, standIns := [], harness := (true, "10cf9adc4aa311c1a2681be1db78b0f6d76a76bafd065efa74e08656391c5acc"), looks := true }, kinds := [], alts := [], laidByText := true, laidKinds := [.handle, .sentinel, .sentinel, .sentinel, .sentinel, .sentinel, .sentinel, .sentinel, .sentinel, .sentinel, .widerDeep, .data, .widerDeep, .data, .widerDeep], laidTests := true, laidLooks := .later }
def UnzipTellsUptoCardSaid : Prop := Claim7.holds Tryd.pinned (.plain (OpenSpec.upto unzipTellsSpec)) unzipTellsUptoCard

/-- THE SECOND FORM's CARD OF 'layercakelaw1.DeflatePacks'. -/
def deflatePacksUptoCard : Claim7 := { stood := { row := deflatePacksUptoRow, standIns := [], harness := (true, "10cf9adc4aa311c1a2681be1db78b0f6d76a76bafd065efa74e08656391c5acc"), looks := true }, kinds := [], alts := [], laidByText := true, laidKinds := [.sentinel, .sentinel, .widerDeep, .data, .widerDeep, .data, .widerDeep], laidTests := true, laidLooks := .later }
def DeflatePacksUptoCardSaid : Prop := Claim7.holds Tryd.pinned (.plain (OpenSpec.upto deflatePacksSpec)) deflatePacksUptoCard

/-- THE SECOND FORM's CARD OF 'layercakelaw1.DeflateFixed'. -/
def deflateFixedUptoCard : Claim7 := { stood := { row := deflateFixedUptoRow, standIns := [], harness := (true, "10cf9adc4aa311c1a2681be1db78b0f6d76a76bafd065efa74e08656391c5acc"), looks := true }, kinds := [], alts := [], laidByText := true, laidKinds := [.handle, .sentinel, .sentinel, .sentinel, .sentinel, .sentinel, .sentinel, .sentinel, .sentinel, .sentinel, .widerDeep, .data, .widerDeep, .data, .widerDeep], laidTests := true, laidLooks := .later }
def DeflateFixedUptoCardSaid : Prop := Claim7.holds Tryd.pinned (.plain (OpenSpec.upto deflateFixedSpec)) deflateFixedUptoCard

/-- THE SECOND FORM's CARD OF 'layercakelaw1.DeflateDynamic'. -/
def deflateDynamicUptoCard : Claim7 := { stood := { row := deflateDynamicUptoRow, standIns := [], harness := (true, "10cf9adc4aa311c1a2681be1db78b0f6d76a76bafd065efa74e08656391c5acc"), looks := true }, kinds := [], alts := [], laidByText := true, laidKinds := [.handle, .sentinel, .sentinel, .sentinel, .sentinel, .sentinel, .sentinel, .sentinel, .sentinel, .sentinel, .widerDeep, .data, .widerDeep, .data, .widerDeep], laidTests := true, laidLooks := .later }
def DeflateDynamicUptoCardSaid : Prop := Claim7.holds Tryd.pinned (.plain (OpenSpec.upto deflateDynamicSpec)) deflateDynamicUptoCard

/-- THE SECOND FORM's CARD OF 'layercakelaw1.DeflateTwice'. -/
def deflateTwiceUptoCard : Claim7 := { stood := { row := deflateTwiceUptoRow, standIns := [], harness := (true, "10cf9adc4aa311c1a2681be1db78b0f6d76a76bafd065efa74e08656391c5acc"), looks := true }, kinds := [], alts := [], laidByText := true, laidKinds := [.sentinel, .sentinel, .sentinel, .sentinel, .widerDeep, .data, .widerDeep, .data, .widerDeep], laidTests := true, laidLooks := .later }
def DeflateTwiceUptoCardSaid : Prop := Claim7.holds Tryd.pinned (.plain (OpenSpec.upto deflateTwiceSpec)) deflateTwiceUptoCard
end Rows
end Go.Proofs.YtnhbjgmfbcedaaaDoor
