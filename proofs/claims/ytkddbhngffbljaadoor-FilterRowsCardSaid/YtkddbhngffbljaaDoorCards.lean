/-
  DERIVED. GIVEN WITH THE SEED: THE CARDS: each row of YtkddbhngffbljaaDoorRows.lean that lists a variable, with what it lists TIED to the program's text (the seventh form; the later family's looks); each row that meets fmt, with fmt's text TOLD by the authors' own Lean function (tested against real Go, not proved from fmt's source: count such statements apart). THE CARD IS WHAT COUNTS. Prove the row's statement (the work); the ties are given (YtkddbhngffbljaaDoorTie.lean); close each card by the builder's one call (the guide's Derived/Test/ToyasCard.lean, 'card_holds'). Laid BY PROGRAM, IN A SANDBOX (cutbox-door.mjs). By AI agents, Wed Nov 11 2026. No macro, syntax, notation, axiom, sorry.
-/
import Derived.Test.YtkddbhngffbljaaDoorRows
import GoSem.ClaimSeven
namespace Go.Proofs.YtkddbhngffbljaaDoor
namespace Rows

/-- THE TIED CARD OF 'layercakelaw1.BitsTwice'. -/
def bitsTwiceCard : Claim7 := { stood := { row := bitsTwiceRow, standIns := [], harness := (true, "5ba26fe5e349b8e53245aca06b4c9beb486135fe41dff12cf08ba268ac20e6a2"), looks := true }, kinds := [], alts := [], laidByText := true, laidKinds := [.sentinel, .sentinel], laidTests := true, laidLooks := .later }
def BitsTwiceCardSaid : Prop := Claim7.holds Tryd.pinned (.plain (OpenSpec.ofChange bitsTwiceSpec)) bitsTwiceCard

/-- THE TIED CARD OF 'layercakelaw1.BitsPut'. -/
def bitsPutCard : Claim7 := { stood := { row := bitsPutRow, standIns := [], harness := (true, "5ba26fe5e349b8e53245aca06b4c9beb486135fe41dff12cf08ba268ac20e6a2"), looks := true }, kinds := [], alts := [], laidByText := true, laidKinds := [.handle, .sentinel, .sentinel, .sentinel, .sentinel, .sentinel, .sentinel, .sentinel, .sentinel, .sentinel], laidTests := true, laidLooks := .later }
def BitsPutCardSaid : Prop := Claim7.holds Tryd.pinned (.plain (OpenSpec.ofChange bitsPutSpec)) bitsPutCard

/-- THE TIED CARD OF 'layercakelaw1.BitsGet'. -/
def bitsGetCard : Claim7 := { stood := { row := bitsGetRow, standIns := [], harness := (true, "5ba26fe5e349b8e53245aca06b4c9beb486135fe41dff12cf08ba268ac20e6a2"), looks := true }, kinds := [], alts := [], laidByText := true, laidKinds := [.handle, .sentinel, .sentinel, .sentinel, .sentinel, .sentinel, .sentinel, .sentinel, .sentinel, .sentinel], laidTests := true, laidLooks := .later }
def BitsGetCardSaid : Prop := Claim7.holds Tryd.pinned (.plain (OpenSpec.ofChange bitsGetSpec)) bitsGetCard

/-- THE TIED CARD OF 'layercakelaw1.HuffApart'. -/
def huffApartCard : Claim7 := { stood := { row := huffApartRow, standIns := [], harness := (true, "5ba26fe5e349b8e53245aca06b4c9beb486135fe41dff12cf08ba268ac20e6a2"), looks := true }, kinds := [], alts := [], laidByText := true, laidKinds := [.sentinel, .sentinel], laidTests := true, laidLooks := .later }
def HuffApartCardSaid : Prop := Claim7.holds Tryd.pinned (.plain (OpenSpec.ofChange huffApartSpec)) huffApartCard

/-- THE TIED CARD OF 'layercakelaw1.HuffCodes'. -/
def huffCodesCard : Claim7 := { stood := { row := huffCodesRow, standIns := [], harness := (true, "5ba26fe5e349b8e53245aca06b4c9beb486135fe41dff12cf08ba268ac20e6a2"), looks := true }, kinds := [], alts := [], laidByText := true, laidKinds := [.handle, .sentinel, .sentinel, .sentinel, .sentinel, .sentinel, .sentinel, .sentinel, .sentinel, .sentinel], laidTests := true, laidLooks := .later }
def HuffCodesCardSaid : Prop := Claim7.holds Tryd.pinned (.plain (OpenSpec.ofChange huffCodesSpec)) huffCodesCard

/-- THE TIED CARD OF 'layercakelaw1.HuffCosts'. -/
def huffCostsCard : Claim7 := { stood := { row := huffCostsRow, standIns := [], harness := (true, "5ba26fe5e349b8e53245aca06b4c9beb486135fe41dff12cf08ba268ac20e6a2"), looks := true }, kinds := [], alts := [], laidByText := true, laidKinds := [.handle, .sentinel, .sentinel, .sentinel, .sentinel, .sentinel, .sentinel, .sentinel, .sentinel, .sentinel], laidTests := true, laidLooks := .later }
def HuffCostsCardSaid : Prop := Claim7.holds Tryd.pinned (.plain (OpenSpec.ofChange huffCostsSpec)) huffCostsCard

/-- THE TIED CARD OF 'layercakelaw1.HuffReads'. -/
def huffReadsCard : Claim7 := { stood := { row := huffReadsRow, standIns := [], harness := (true, "5ba26fe5e349b8e53245aca06b4c9beb486135fe41dff12cf08ba268ac20e6a2"), looks := true }, kinds := [], alts := [], laidByText := true, laidKinds := [.handle, .sentinel, .sentinel, .sentinel, .sentinel, .sentinel, .sentinel, .sentinel, .sentinel, .sentinel], laidTests := true, laidLooks := .later }
def HuffReadsCardSaid : Prop := Claim7.holds Tryd.pinned (.plain (OpenSpec.ofChange huffReadsSpec)) huffReadsCard

/-- THE TIED CARD OF 'layercakelaw1.HuffFalls'. -/
def huffFallsCard : Claim7 := { stood := { row := huffFallsRow, standIns := [], harness := (true, "5ba26fe5e349b8e53245aca06b4c9beb486135fe41dff12cf08ba268ac20e6a2"), looks := true }, kinds := [], alts := [], laidByText := true, laidKinds := [.handle, .sentinel, .sentinel, .sentinel, .sentinel, .sentinel, .sentinel, .sentinel, .sentinel, .sentinel], laidTests := true, laidLooks := .later }
def HuffFallsCardSaid : Prop := Claim7.holds Tryd.pinned (.plain (OpenSpec.ofChange huffFallsSpec)) huffFallsCard

/-- THE TIED CARD OF 'layercakelaw1.Names'. -/
def namesCard : Claim7 := { stood := { row := namesRow, standIns := [], harness := (true, "5ba26fe5e349b8e53245aca06b4c9beb486135fe41dff12cf08ba268ac20e6a2"), looks := true }, kinds := [], alts := [], laidByText := true, laidKinds := [.handle, .sentinel, .sentinel, .sentinel, .sentinel, .sentinel, .sentinel, .sentinel, .sentinel, .sentinel], laidTests := true, laidLooks := .later }
def NamesCardSaid : Prop := Claim7.holds Tryd.pinned (.plain (OpenSpec.ofChange namesSpec)) namesCard

/-- THE TIED CARD OF 'layercakelaw1.FilterTwice'. -/
def filterTwiceCard : Claim7 := { stood := { row := filterTwiceRow, standIns := [], harness := (true, "5ba26fe5e349b8e53245aca06b4c9beb486135fe41dff12cf08ba268ac20e6a2"), looks := true }, kinds := [], alts := [], laidByText := true, laidKinds := [.sentinel, .sentinel], laidTests := true, laidLooks := .later }
def FilterTwiceCardSaid : Prop := Claim7.holds Tryd.pinned (.plain (OpenSpec.ofChange filterTwiceSpec)) filterTwiceCard

/-- THE TIED CARD OF 'layercakelaw1.FilterDoes'. -/
def filterDoesCard : Claim7 := { stood := { row := filterDoesRow, standIns := [], harness := (true, "5ba26fe5e349b8e53245aca06b4c9beb486135fe41dff12cf08ba268ac20e6a2"), looks := true }, kinds := [], alts := [], laidByText := true, laidKinds := [.handle, .sentinel, .sentinel, .sentinel, .sentinel, .sentinel, .sentinel, .sentinel, .sentinel, .sentinel], laidTests := true, laidLooks := .later }
def FilterDoesCardSaid : Prop := Claim7.holds Tryd.pinned (.plain (OpenSpec.ofChange filterDoesSpec)) filterDoesCard

/-- THE TIED CARD OF 'layercakelaw1.FilterRows'. -/
def filterRowsCard : Claim7 := { stood := { row := filterRowsRow, standIns := [], harness := (true, "5ba26fe5e349b8e53245aca06b4c9beb486135fe41dff12cf08ba268ac20e6a2"), looks := true }, kinds := [], alts := [], laidByText := true, laidKinds := [.handle, .sentinel, .sentinel, .sentinel, .sentinel, .sentinel, .sentinel, .sentinel, .sentinel, .sentinel], laidTests := true, laidLooks := .later }
def FilterRowsCardSaid : Prop := Claim7.holds Tryd.pinned (.plain (OpenSpec.ofChange filterRowsSpec)) filterRowsCard

/-- THE SECOND FORM's CARD OF 'layercakelaw1.BitsTwice'. -/
def bitsTwiceUptoCard : Claim7 := { stood := { row := bitsTwiceUptoRow, standIns := [], harness := (true, "5ba26fe5e349b8e53245aca06b4c9beb486135fe41dff12cf08ba268ac20e6a2"), looks := true }, kinds := [], alts := [], laidByText := true, laidKinds := [.sentinel, .sentinel], laidTests := true, laidLooks := .later }
def BitsTwiceUptoCardSaid : Prop := Claim7.holds Tryd.pinned (.plain (OpenSpec.upto bitsTwiceSpec)) bitsTwiceUptoCard

/-- THE SECOND FORM's CARD OF 'layercakelaw1.BitsPut'. -/
def bitsPutUptoCard : Claim7 := { stood := { row := bitsPutUptoRow, standIns := [], harness := (true, "5ba26fe5e349b8e53245aca06b4c9beb486135fe41dff12cf08ba268ac20e6a2"), looks := true }, kinds := [], alts := [], laidByText := true, laidKinds := [.handle, .sentinel, .sentinel, .sentinel, .sentinel, .sentinel, .sentinel, .sentinel, .sentinel, .sentinel], laidTests := true, laidLooks := .later }
def BitsPutUptoCardSaid : Prop := Claim7.holds Tryd.pinned (.plain (OpenSpec.upto bitsPutSpec)) bitsPutUptoCard

/-- THE SECOND FORM's CARD OF 'layercakelaw1.BitsGet'. -/
def bitsGetUptoCard : Claim7 := { stood := { row := bitsGetUptoRow, standIns := [], harness := (true, "5ba26fe5e349b8e53245aca06b4c9beb486135fe41dff12cf08ba268ac20e6a2"), looks := true }, kinds := [], alts := [], laidByText := true, laidKinds := [.handle, .sentinel, .sentinel, .sentinel, .sentinel, .sentinel, .sentinel, .sentinel, .sentinel, .sentinel], laidTests := true, laidLooks := .later }
def BitsGetUptoCardSaid : Prop := Claim7.holds Tryd.pinned (.plain (OpenSpec.upto bitsGetSpec)) bitsGetUptoCard

/-- THE SECOND FORM's CARD OF 'layercakelaw1.HuffApart'. -/
def huffApartUptoCard : Claim7 := { stood := { row := huffApartUptoRow, standIns := [], harness := (true, "5ba26fe5e349b8e53245aca06b4c9beb486135fe41dff12cf08ba268ac20e6a2"), looks := true }, kinds := [], alts := [], laidByText := true, laidKinds := [.sentinel, .sentinel], laidTests := true, laidLooks := .later }
def HuffApartUptoCardSaid : Prop := Claim7.holds Tryd.pinned (.plain (OpenSpec.upto huffApartSpec)) huffApartUptoCard

/-- THE SECOND FORM's CARD OF 'layercakelaw1.HuffCodes'. -/
def huffCodesUptoCard : Claim7 := { stood := { row := huffCodesUptoRow, standIns := [], harness := (true, "5ba26fe5e349b8e53245aca06b4c9beb486135fe41dff12cf08ba268ac20e6a2"), looks := true }, kinds := [], alts := [], laidByText := true, laidKinds := [.handle, .sentinel, .sentinel, .sentinel, .sentinel, .sentinel, .sentinel, .sentinel, .sentinel, .sentinel], laidTests := true, laidLooks := .later }
def HuffCodesUptoCardSaid : Prop := Claim7.holds Tryd.pinned (.plain (OpenSpec.upto huffCodesSpec)) huffCodesUptoCard

/-- THE SECOND FORM's CARD OF 'layercakelaw1.HuffCosts'. -/
def huffCostsUptoCard : Claim7 := { stood := { row := huffCostsUptoRow, standIns := [], harness := (true, "5ba26fe5e349b8e53245aca06b4c9beb486135fe41dff12cf08ba268ac20e6a2"), looks := true }, kinds := [], alts := [], laidByText := true, laidKinds := [.handle, .sentinel, .sentinel, .sentinel, .sentinel, .sentinel, .sentinel, .sentinel, .sentinel, .sentinel], laidTests := true, laidLooks := .later }
def HuffCostsUptoCardSaid : Prop := Claim7.holds Tryd.pinned (.plain (OpenSpec.upto huffCostsSpec)) huffCostsUptoCard

/-- THE SECOND FORM's CARD OF 'layercakelaw1.HuffReads'. -/
def huffReadsUptoCard : Claim7 := { stood := { row := huffReadsUptoRow, standIns := [], harness := (true, "5ba26fe5e349b8e53245aca06b4c9beb486135fe41dff12cf08ba268ac20e6a2"), looks := true }, kinds := [], alts := [], laidByText := true, laidKinds := [.handle, .sentinel, .sentinel, .sentinel, .sentinel, .sentinel, .sentinel, .sentinel, .sentinel, .sentinel], laidTests := true, laidLooks := .later }
def HuffReadsUptoCardSaid : Prop := Claim7.holds Tryd.pinned (.plain (OpenSpec.upto huffReadsSpec)) huffReadsUptoCard

/-- THE SECOND FORM's CARD OF 'layercakelaw1.HuffFalls'. -/
def huffFallsUptoCard : Claim7 := { stood := { row := huffFallsUptoRow, standIns := [], harness := (true, "5ba26fe5e349b8e53245aca06b4c9beb486135fe41dff12cf08ba268ac20e6a2"), looks := true }, kinds := [], alts := [], laidByText := true, laidKinds := [.handle, .sentinel, .sentinel, .sentinel, .sentinel, .sentinel, .sentinel, .sentinel, .sentinel, .sentinel], laidTests := true, laidLooks := .later }
def HuffFallsUptoCardSaid : Prop := Claim7.holds Tryd.pinned (.plain (OpenSpec.upto huffFallsSpec)) huffFallsUptoCard

/-- THE SECOND FORM's CARD OF 'layercakelaw1.Names'. -/
def namesUptoCard : Claim7 := { stood := { row := namesUptoRow, standIns := [], harness := (true, "5ba26fe5e349b8e53245aca06b4c9beb486135fe41dff12cf08ba268ac20e6a2"), looks := true }, kinds := [], alts := [], laidByText := true, laidKinds := [.handle, .sentinel, .sentinel, .sentinel, .sentinel, .sentinel, .sentinel, .sentinel, .sentinel, .sentinel], laidTests := true, laidLooks := .later }
def NamesUptoCardSaid : Prop := Claim7.holds Tryd.pinned (.plain (OpenSpec.upto namesSpec)) namesUptoCard

/-- THE SECOND FORM's CARD OF 'layercakelaw1.FilterTwice'. -/
def filterTwiceUptoCard : Claim7 := { stood := { row := filterTwiceUptoRow, standIns := [], harness := (true, "5ba26fe5e349b8e53245aca06b4c9beb486135fe41dff12cf08ba268ac20e6a2"), looks := true }, kinds := [], alts := [], laidByText := true, laidKinds := [.sentinel, .sentinel], laidTests := true, laidLooks := .later }
def FilterTwiceUptoCardSaid : Prop := Claim7.holds Tryd.pinned (.plain (OpenSpec.upto filterTwiceSpec)) filterTwiceUptoCard

/-- THE SECOND FORM's CARD OF 'layercakelaw1.FilterDoes'. -/
def filterDoesUptoCard : Claim7 := { stood := { row := filterDoesUptoRow, standIns := [], harness := (true, "5ba26fe5e349b8e53245aca06b4c9beb486135fe41dff12cf08ba268ac20e6a2"), looks := true }, kinds := [], alts := [], laidByText := true, laidKinds := [.handle, .sentinel, .sentinel, .sentinel, .sentinel, .sentinel, .sentinel, .sentinel, .sentinel, .sentinel], laidTests := true, laidLooks := .later }
def FilterDoesUptoCardSaid : Prop := Claim7.holds Tryd.pinned (.plain (OpenSpec.upto filterDoesSpec)) filterDoesUptoCard

/-- THE SECOND FORM's CARD OF 'layercakelaw1.FilterRows'. -/
def filterRowsUptoCard : Claim7 := { stood := { row := filterRowsUptoRow, standIns := [], harness := (true, "5ba26fe5e349b8e53245aca06b4c9beb486135fe41dff12cf08ba268ac20e6a2"), looks := true }, kinds := [], alts := [], laidByText := true, laidKinds := [.handle, .sentinel, .sentinel, .sentinel, .sentinel, .sentinel, .sentinel, .sentinel, .sentinel, .sentinel], laidTests := true, laidLooks := .later }
def FilterRowsUptoCardSaid : Prop := Claim7.holds Tryd.pinned (.plain (OpenSpec.upto filterRowsSpec)) filterRowsUptoCard
end Rows
end Go.Proofs.YtkddbhngffbljaaDoor
