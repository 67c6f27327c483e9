/-
  DERIVED. GIVEN WITH THE SEED: THE CARDS: each row of YtdeiolagnheihaaDoorRows.lean that lists a variable, with what it lists TIED to the program's text (the seventh form; the later family's looks); each row that meets fmt, with fmt's text TOLD by the authors' own Lean function (tested against real Go, not proved from fmt's source: count such statements apart). THE CARD IS WHAT COUNTS. Prove the row's statement (the work); the ties are given (YtdeiolagnheihaaDoorTie.lean); close each card by the builder's one call (the guide's Derived/Test/ToyasCard.lean, 'card_holds'). Laid BY PROGRAM, IN A SANDBOX (cutbox-door.mjs). By AI agents, Wed Nov 11 2026. No macro, syntax, notation, axiom, sorry.
-/
import Derived.Test.YtdeiolagnheihaaDoorRows
import GoSem.ClaimSeven
namespace Go.Proofs.YtdeiolagnheihaaDoor
namespace Rows

/-- THE TIED CARD OF 'layercakelaw1.LzwTwice'. -/
def lzwTwiceCard : Claim7 := { stood := { row := lzwTwiceRow, standIns := [], harness := (true, "9cb197e5c570b216a1bbeb467ceeded640d5fd8f6f4e15d658ffa6a459bcbfc1"), looks := true }, kinds := [], alts := [], laidByText := true, laidKinds := [.sentinel, .sentinel, .sentinel], laidTests := true, laidLooks := .later }
def LzwTwiceCardSaid : Prop := Claim7.holds Tryd.pinned (.plain (OpenSpec.ofChange lzwTwiceSpec)) lzwTwiceCard

/-- THE TIED CARD OF 'layercakelaw1.LzwPacks'. -/
def lzwPacksCard : Claim7 := { stood := { row := lzwPacksRow, standIns := [], harness := (true, "9cb197e5c570b216a1bbeb467ceeded640d5fd8f6f4e15d658ffa6a459bcbfc1"), looks := true }, kinds := [], alts := [], laidByText := true, laidKinds := [.handle, .sentinel, .sentinel, .sentinel, .sentinel, .sentinel, .sentinel, .sentinel, .sentinel, .sentinel], laidTests := true, laidLooks := .later }
def LzwPacksCardSaid : Prop := Claim7.holds Tryd.pinned (.plain (OpenSpec.ofChange lzwPacksSpec)) lzwPacksCard

/-- THE TIED CARD OF 'layercakelaw1.LzwBlocks'. -/
def lzwBlocksCard : Claim7 := { stood := { row := lzwBlocksRow, standIns := [], harness := (true, "9cb197e5c570b216a1bbeb467ceeded640d5fd8f6f4e15d658ffa6a459bcbfc1"), looks := true }, kinds := [], alts := [], laidByText := true, laidKinds := [.handle, .sentinel, .sentinel, .sentinel, .sentinel, .sentinel, .sentinel, .sentinel, .sentinel, .sentinel], laidTests := true, laidLooks := .later }
def LzwBlocksCardSaid : Prop := Claim7.holds Tryd.pinned (.plain (OpenSpec.ofChange lzwBlocksSpec)) lzwBlocksCard

/-- THE TIED CARD OF 'layercakelaw1.LzwReads'. -/
def lzwReadsCard : Claim7 := { stood := { row := lzwReadsRow, standIns := [], harness := (true, "9cb197e5c570b216a1bbeb467ceeded640d5fd8f6f4e15d658ffa6a459bcbfc1"), looks := true }, kinds := [], alts := [], laidByText := true, laidKinds := [.handle, .sentinel, .sentinel, .sentinel, .sentinel, .sentinel, .sentinel, .sentinel, .sentinel, .sentinel], laidTests := true, laidLooks := .later }
def LzwReadsCardSaid : Prop := Claim7.holds Tryd.pinned (.plain (OpenSpec.ofChange lzwReadsSpec)) lzwReadsCard

/-- THE TIED CARD OF 'layercakelaw1.MatchExpands'. -/
def matchExpandsCard : Claim7 := { stood := { row := matchExpandsRow, standIns := [], harness := (true, "9cb197e5c570b216a1bbeb467ceeded640d5fd8f6f4e15d658ffa6a459bcbfc1"), looks := true }, kinds := [], alts := [], laidByText := true, laidKinds := [.handle, .sentinel, .sentinel, .sentinel, .sentinel, .sentinel, .sentinel, .sentinel, .sentinel, .sentinel], laidTests := true, laidLooks := .later }
def MatchExpandsCardSaid : Prop := Claim7.holds Tryd.pinned (.plain (OpenSpec.ofChange matchExpandsSpec)) matchExpandsCard

/-- THE TIED CARD OF 'layercakelaw1.MatchFinds'. -/
def matchFindsCard : Claim7 := { stood := { row := matchFindsRow, standIns := [], harness := (true, "9cb197e5c570b216a1bbeb467ceeded640d5fd8f6f4e15d658ffa6a459bcbfc1"), looks := true }, kinds := [], alts := [], laidByText := true, laidKinds := [.handle, .sentinel, .sentinel, .sentinel, .sentinel, .sentinel, .sentinel, .sentinel, .sentinel, .sentinel], laidTests := true, laidLooks := .later }
def MatchFindsCardSaid : Prop := Claim7.holds Tryd.pinned (.plain (OpenSpec.ofChange matchFindsSpec)) matchFindsCard

/-- THE TIED CARD OF 'layercakelaw1.MatchLong'. -/
def matchLongCard : Claim7 := { stood := { row := matchLongRow, standIns := [], harness := (true, "9cb197e5c570b216a1bbeb467ceeded640d5fd8f6f4e15d658ffa6a459bcbfc1"), looks := true }, kinds := [], alts := [], laidByText := true, laidKinds := [.handle, .sentinel, .sentinel, .sentinel, .sentinel, .sentinel, .sentinel, .sentinel, .sentinel, .sentinel], laidTests := true, laidLooks := .later }
def MatchLongCardSaid : Prop := Claim7.holds Tryd.pinned (.plain (OpenSpec.ofChange matchLongSpec)) matchLongCard

/-- THE TIED CARD OF 'layercakelaw1.HuffBest'. -/
def huffBestCard : Claim7 := { stood := { row := huffBestRow, standIns := [], harness := (true, "9cb197e5c570b216a1bbeb467ceeded640d5fd8f6f4e15d658ffa6a459bcbfc1"), looks := true }, kinds := [], alts := [], laidByText := true, laidKinds := [.handle, .sentinel, .sentinel, .sentinel, .sentinel, .sentinel, .sentinel, .sentinel, .sentinel, .sentinel], laidTests := true, laidLooks := .later }
def HuffBestCardSaid : Prop := Claim7.holds Tryd.pinned (.plain (OpenSpec.ofChange huffBestSpec)) huffBestCard

/-- THE SECOND FORM's CARD OF 'layercakelaw1.LzwTwice'. -/
def lzwTwiceUptoCard : Claim7 := { stood := { row := lzwTwiceUptoRow, standIns := [], harness := (true, "9cb197e5c570b216a1bbeb467ceeded640d5fd8f6f4e15d658ffa6a459bcbfc1"), looks := true }, kinds := [], alts := [], laidByText := true, laidKinds := [.sentinel, .sentinel, .sentinel], laidTests := true, laidLooks := .later }
def LzwTwiceUptoCardSaid : Prop := Claim7.holds Tryd.pinned (.plain (OpenSpec.upto lzwTwiceSpec)) lzwTwiceUptoCard

/-- THE SECOND FORM's CARD OF 'layercakelaw1.LzwPacks'. -/
def lzwPacksUptoCard : Claim7 := { stood := { row := lzwPacksUptoRow, standIns := [], harness := (true, "9cb197e5c570b216a1bbeb467ceeded640d5fd8f6f4e15d658ffa6a459bcbfc1"), looks := true }, kinds := [], alts := [], laidByText := true, laidKinds := [.handle, .sentinel, .sentinel, .sentinel, .sentinel, .sentinel, .sentinel, .sentinel, .sentinel, .sentinel], laidTests := true, laidLooks := .later }
def LzwPacksUptoCardSaid : Prop := Claim7.holds Tryd.pinned (.plain (OpenSpec.upto lzwPacksSpec)) lzwPacksUptoCard

/-- THE SECOND FORM's CARD OF 'layercakelaw1.LzwBlocks'. -/
def lzwBlocksUptoCard : Claim7 := { stood := { row := lzwBlocksUptoRow, standIns := [], harness := (true, "9cb197e5c570b216a1bbeb467ceeded640d5fd8f6f4e15d658ffa6a459bcbfc1"), looks := true }, kinds := [], alts := [], laidByText := true, laidKinds := [.handle, .sentinel, .sentinel, .sentinel, .sentinel, .sentinel, .sentinel, .sentinel, .sentinel, .sentinel], laidTests := true, laidLooks := .later }
def LzwBlocksUptoCardSaid : Prop := Claim7.holds Tryd.pinned (.plain (OpenSpec.upto lzwBlocksSpec)) lzwBlocksUptoCard

/-- THE SECOND FORM's CARD OF 'layercakelaw1.LzwReads'. -/
def lzwReadsUptoCard : Claim7 := { stood := { row := lzwReadsUptoRow, standIns := [], harness := (true, "9cb197e5c570b216a1bbeb467ceeded640d5fd8f6f4e15d658ffa6a459bcbfc1"), looks := true }, kinds := [], alts := [], laidByText := true, laidKinds := [.handle, .sentinel, .sentinel, .sentinel, .sentinel, .sentinel, .sentinel, .sentinel, .sentinel, .sentinel], laidTests := true, laidLooks := .later }
def LzwReadsUptoCardSaid : Prop := Claim7.holds Tryd.pinned (.plain (OpenSpec.upto lzwReadsSpec)) lzwReadsUptoCard

/-- THE SECOND FORM's CARD OF 'layercakelaw1.MatchExpands'. -/
def matchExpandsUptoCard : Claim7 := { stood := { row := matchExpandsUptoRow, standIns := [], harness := (true, "9cb197e5c570b216a1bbeb467ceeded640d5fd8f6f4e15d658ffa6a459bcbfc1"), looks := true }, kinds := [], alts := [], laidByText := true, laidKinds := [.handle, .sentinel, .sentinel, .sentinel, .sentinel, .sentinel, .sentinel, .sentinel, .sentinel, .sentinel], laidTests := true, laidLooks := .later }
def MatchExpandsUptoCardSaid : Prop := Claim7.holds Tryd.pinned (.plain (OpenSpec.upto matchExpandsSpec)) matchExpandsUptoCard

/-- THE SECOND FORM's CARD OF 'layercakelaw1.MatchFinds'. -/
def matchFindsUptoCard : Claim7 := { stood := { row := matchFindsUptoRow, standIns := [], harness := (true, "9cb197e5c570b216a1bbeb467ceeded640d5fd8f6f4e15d658ffa6a459bcbfc1"), looks := true }, kinds := [], alts := [], laidByText := true, laidKinds := [.handle, .sentinel, .sentinel, .sentinel, .sentinel, .sentinel, .sentinel, .sentinel, .sentinel, .sentinel], laidTests := true, laidLooks := .later }
def MatchFindsUptoCardSaid : Prop := Claim7.holds Tryd.pinned (.plain (OpenSpec.upto matchFindsSpec)) matchFindsUptoCard

/-- THE SECOND FORM's CARD OF 'layercakelaw1.MatchLong'. -/
def matchLongUptoCard : Claim7 := { stood := { row := matchLongUptoRow, standIns := [], harness := (true, "9cb197e5c570b216a1bbeb467ceeded640d5fd8f6f4e15d658ffa6a459bcbfc1"), looks := true }, kinds := [], alts := [], laidByText := true, laidKinds := [.handle, .sentinel, .sentinel, .sentinel, .sentinel, .sentinel, .sentinel, .sentinel, .sentinel, .sentinel], laidTests := true, laidLooks := .later }
def MatchLongUptoCardSaid : Prop := Claim7.holds Tryd.pinned (.plain (OpenSpec.upto matchLongSpec)) matchLongUptoCard

/-- THE SECOND FORM's CARD OF 'layercakelaw1.HuffBest'. -/
def huffBestUptoCard : Claim7 := { stood := { row := huffBestUptoRow, standIns := [], harness := (true, "9cb197e5c570b216a1bbeb467ceeded640d5fd8f6f4e15d658ffa6a459bcbfc1"), looks := true }, kinds := [], alts := [], laidByText := true, laidKinds := [.handle, .sentinel, .sentinel, .sentinel, .sentinel, .sentinel, .sentinel, .sentinel, .sentinel, .sentinel], laidTests := true, laidLooks := .later }
def HuffBestUptoCardSaid : Prop := Claim7.holds Tryd.pinned (.plain (OpenSpec.upto huffBestSpec)) huffBestUptoCard
end Rows
end Go.Proofs.YtdeiolagnheihaaDoor
