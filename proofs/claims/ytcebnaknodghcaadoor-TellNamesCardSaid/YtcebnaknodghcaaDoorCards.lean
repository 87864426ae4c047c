/-
  DERIVED. GIVEN WITH THE SEED: THE CARDS: each row of YtcebnaknodghcaaDoorRows.lean that lists a variable, with what it lists TIED to the program's text (the seventh form; the later family's looks); each row that meets fmt, with fmt's text TOLD by the authors' own Lean function (tested against real Go, not proved from fmt's source: count such statements apart). THE CARD IS WHAT COUNTS. Prove the row's statement (the work); the ties are given (YtcebnaknodghcaaDoorTie.lean); close each card by the builder's one call (the guide's Derived/Test/ToyasCard.lean, 'card_holds'). Laid BY PROGRAM, IN A SANDBOX (cutbox-door.mjs). By AI agents, Wed Nov 11 2026. No macro, syntax, notation, axiom, sorry.
-/
import Derived.Test.YtcebnaknodghcaaDoorRows
import GoSem.ClaimSeven
namespace Go.Proofs.YtcebnaknodghcaaDoor
namespace Rows

/-- THE TIED CARD OF 'towropelaw34.TellMarks'. -/
def tellMarksCard : Claim7 := { stood := { row := tellMarksRow, standIns := [], harness := (true, "5a03b2bdc9d195c1d3d3c70ca825cf56423e4cb4aafcafcf02a2ae2e415db7c1"), looks := true }, kinds := [], alts := [], laidByText := true, laidKinds := [.data, .data, .data], laidTests := true, laidLooks := .later }
def TellMarksCardSaid : Prop := Claim7.holds Tryd.pinned (.plain (OpenSpec.ofChange tellMarksSpec)) tellMarksCard

/-- THE TIED CARD OF 'towropelaw05.AddrTexts'. -/
def addrTextsCard : Claim7 := { stood := { row := addrTextsRow, standIns := [], harness := (true, "5a03b2bdc9d195c1d3d3c70ca825cf56423e4cb4aafcafcf02a2ae2e415db7c1"), looks := true }, kinds := [], alts := [], laidByText := true, laidKinds := [.data, .data, .data], laidTests := true, laidLooks := .later }
def AddrTextsCardSaid : Prop := Claim7.holds Tryd.pinned (.plain (OpenSpec.ofChange addrTextsSpec)) addrTextsCard

/-- THE TIED CARD OF 'towropelaw05.AddrHalves'. -/
def addrHalvesCard : Claim7 := { stood := { row := addrHalvesRow, standIns := [], harness := (true, "5a03b2bdc9d195c1d3d3c70ca825cf56423e4cb4aafcafcf02a2ae2e415db7c1"), looks := true }, kinds := [], alts := [], laidByText := true, laidKinds := [.data, .data, .data], laidTests := true, laidLooks := .later }
def AddrHalvesCardSaid : Prop := Claim7.holds Tryd.pinned (.plain (OpenSpec.ofChange addrHalvesSpec)) addrHalvesCard

/-- THE TIED CARD OF 'towropelaw34.TellNames'. -/
def tellNamesCard : Claim7 := { stood := { row := tellNamesRow, standIns := [], harness := (true, "5a03b2bdc9d195c1d3d3c70ca825cf56423e4cb4aafcafcf02a2ae2e415db7c1"), looks := true }, kinds := [], alts := [], laidByText := true, laidKinds := [.data, .data, .data], laidTests := true, laidLooks := .later }
def TellNamesCardSaid : Prop := Claim7.holds Tryd.pinned (.plain (OpenSpec.ofChange tellNamesSpec)) tellNamesCard

/-- THE TIED CARD OF 'towropelaw05.AddrNets'. -/
def addrNetsCard : Claim7 := { stood := { row := addrNetsRow, standIns := [], harness := (true, "5a03b2bdc9d195c1d3d3c70ca825cf56423e4cb4aafcafcf02a2ae2e415db7c1"), looks := true }, kinds := [], alts := [], laidByText := true, laidKinds := [.data, .data, .data], laidTests := true, laidLooks := .later }
def AddrNetsCardSaid : Prop := Claim7.holds Tryd.pinned (.plain (OpenSpec.ofChange addrNetsSpec)) addrNetsCard

/-- THE TIED CARD OF 'towropelaw04.TrailInner'. -/
def trailInnerCard : Claim7 := { stood := { row := trailInnerRow, standIns := [], harness := (true, "5a03b2bdc9d195c1d3d3c70ca825cf56423e4cb4aafcafcf02a2ae2e415db7c1"), looks := true }, kinds := [], alts := [], laidByText := true, laidKinds := [.data, .data, .data, .handle], laidTests := true, laidLooks := .later }
def TrailInnerCardSaid : Prop := Claim7.holds Tryd.pinned (.plain (OpenSpec.ofChange trailInnerSpec)) trailInnerCard

/-- THE TIED CARD OF 'towropelaw04.TrailFirst'. -/
def trailFirstCard : Claim7 := { stood := { row := trailFirstRow, standIns := [], harness := (true, "5a03b2bdc9d195c1d3d3c70ca825cf56423e4cb4aafcafcf02a2ae2e415db7c1"), looks := true }, kinds := [], alts := [], laidByText := true, laidKinds := [.data, .data, .data, .handle], laidTests := true, laidLooks := .later }
def TrailFirstCardSaid : Prop := Claim7.holds Tryd.pinned (.plain (OpenSpec.ofChange trailFirstSpec)) trailFirstCard

/-- THE TIED CARD OF 'towropelaw04.TrailRes'. -/
def trailResCard : Claim7 := { stood := { row := trailResRow, standIns := [], harness := (true, "5a03b2bdc9d195c1d3d3c70ca825cf56423e4cb4aafcafcf02a2ae2e415db7c1"), looks := true }, kinds := [], alts := [], laidByText := true, laidKinds := [.data, .data, .data, .handle], laidTests := true, laidLooks := .later }
def TrailResCardSaid : Prop := Claim7.holds Tryd.pinned (.plain (OpenSpec.ofChange trailResSpec)) trailResCard

/-- THE TIED CARD OF 'towropelaw04.TrailTells'. -/
def trailTellsCard : Claim7 := { stood := { row := trailTellsRow, standIns := [], harness := (true, "5a03b2bdc9d195c1d3d3c70ca825cf56423e4cb4aafcafcf02a2ae2e415db7c1"), looks := true }, kinds := [], alts := [], laidByText := true, laidKinds := [.data, .data, .data, .handle], laidTests := true, laidLooks := .later }
def TrailTellsCardSaid : Prop := Claim7.holds Tryd.pinned (.plain (OpenSpec.ofChange trailTellsSpec)) trailTellsCard

/-- THE TIED CARD OF 'towropelaw34.TellPackets'. -/
def tellPacketsCard : Claim7 := { stood := { row := tellPacketsRow, standIns := [], harness := (true, "5a03b2bdc9d195c1d3d3c70ca825cf56423e4cb4aafcafcf02a2ae2e415db7c1"), looks := true }, kinds := [], alts := [], laidByText := true, laidKinds := [.data, .data, .data], laidTests := true, laidLooks := .later }
def TellPacketsCardSaid : Prop := Claim7.holds Tryd.pinned (.plain (OpenSpec.ofChange tellPacketsSpec)) tellPacketsCard

/-- THE SECOND FORM's CARD OF 'towropelaw34.TellMarks'. -/
def tellMarksUptoCard : Claim7 := { stood := { row := tellMarksUptoRow, standIns := [], harness := (true, "5a03b2bdc9d195c1d3d3c70ca825cf56423e4cb4aafcafcf02a2ae2e415db7c1"), looks := true }, kinds := [], alts := [], laidByText := true, laidKinds := [.data, .data, .data], laidTests := true, laidLooks := .later }
def TellMarksUptoCardSaid : Prop := Claim7.holds Tryd.pinned (.plain (OpenSpec.upto tellMarksSpec)) tellMarksUptoCard

/-- THE SECOND FORM's CARD OF 'towropelaw05.AddrTexts'. -/
def addrTextsUptoCard : Claim7 := { stood := { row := addrTextsUptoRow, standIns := [], harness := (true, "5a03b2bdc9d195c1d3d3c70ca825cf56423e4cb4aafcafcf02a2ae2e415db7c1"), looks := true }, kinds := [], alts := [], laidByText := true, laidKinds := [.data, .data, .data], laidTests := true, laidLooks := .later }
def AddrTextsUptoCardSaid : Prop := Claim7.holds Tryd.pinned (.plain (OpenSpec.upto addrTextsSpec)) addrTextsUptoCard

/-- THE SECOND FORM's CARD OF 'towropelaw05.AddrHalves'. -/
def addrHalvesUptoCard : Claim7 := { stood := { row := addrHalvesUptoRow, standIns := [], harness := (true, "5a03b2bdc9d195c1d3d3c70ca825cf56423e4cb4aafcafcf02a2ae2e415db7c1"), looks := true }, kinds := [], alts := [], laidByText := true, laidKinds := [.data, .data, .data], laidTests := true, laidLooks := .later }
def AddrHalvesUptoCardSaid : Prop := Claim7.holds Tryd.pinned (.plain (OpenSpec.upto addrHalvesSpec)) addrHalvesUptoCard

/-- THE SECOND FORM's CARD OF 'towropelaw34.TellNames'. -/
def tellNamesUptoCard : Claim7 := { stood := { row := tellNamesUptoRow, standIns := [], harness := (true, "5a03b2bdc9d195c1d3d3c70ca825cf56423e4cb4aafcafcf02a2ae2e415db7c1"), looks := true }, kinds := [], alts := [], laidByText := true, laidKinds := [.data, .data, .data], laidTests := true, laidLooks := .later }
def TellNamesUptoCardSaid : Prop := Claim7.holds Tryd.pinned (.plain (OpenSpec.upto tellNamesSpec)) tellNamesUptoCard

/-- THE SECOND FORM's CARD OF 'towropelaw05.AddrNets'. -/
def addrNetsUptoCard : Claim7 := { stood := { row := addrNetsUptoRow, standIns := [], harness := (true, "5a03b2bdc9d195c1d3d3c70ca825cf56423e4cb4aafcafcf02a2ae2e415db7c1"), looks := true }, kinds := [], alts := [], laidByText := true, laidKinds := [.data, .data, .data], laidTests := true, laidLooks := .later }
def AddrNetsUptoCardSaid : Prop := Claim7.holds Tryd.pinned (.plain (OpenSpec.upto addrNetsSpec)) addrNetsUptoCard

/-- THE SECOND FORM's CARD OF 'towropelaw04.TrailInner'. -/
def trailInnerUptoCard : Claim7 := { stood := { row := trailInnerUptoRow, standIns := [], harness := (true, "5a03b2bdc9d195c1d3d3c70ca825cf56423e4cb4aafcafcf02a2ae2e415db7c1"), looks := true }, kinds := [], alts := [], laidByText := true, laidKinds := [.data, .data, .data, .handle], laidTests := true, laidLooks := .later }
def TrailInnerUptoCardSaid : Prop := Claim7.holds Tryd.pinned (.plain (OpenSpec.upto trailInnerSpec)) trailInnerUptoCard

/-- THE SECOND FORM's CARD OF 'towropelaw04.TrailFirst'. -/
def trailFirstUptoCard : Claim7 := { stood := { row := trailFirstUptoRow, standIns := [], harness := (true, "5a03b2bdc9d195c1d3d3c70ca825cf56423e4cb4aafcafcf02a2ae2e415db7c1"), looks := true }, kinds := [], alts := [], laidByText := true, laidKinds := [.data, .data, .data, .handle], laidTests := true, laidLooks := .later }
def TrailFirstUptoCardSaid : Prop := Claim7.holds Tryd.pinned (.plain (OpenSpec.upto trailFirstSpec)) trailFirstUptoCard

/-- THE SECOND FORM's CARD OF 'towropelaw04.TrailRes'. -/
def trailResUptoCard : Claim7 := { stood := { row := trailResUptoRow, standIns := [], harness := (true, "5a03b2bdc9d195c1d3d3c70ca825cf56423e4cb4aafcafcf02a2ae2e415db7c1"), looks := true }, kinds := [], alts := [], laidByText := true, laidKinds := [.data, .data, .data, .handle], laidTests := true, laidLooks := .later }
def TrailResUptoCardSaid : Prop := Claim7.holds Tryd.pinned (.plain (OpenSpec.upto trailResSpec)) trailResUptoCard

/-- THE SECOND FORM's CARD OF 'towropelaw04.TrailTells'. -/
def trailTellsUptoCard : Claim7 := { stood := { row := trailTellsUptoRow, standIns := [], harness := (true, "5a03b2bdc9d195c1d3d3c70ca825cf56423e4cb4aafcafcf02a2ae2e415db7c1"), looks := true }, kinds := [], alts := [], laidByText := true, laidKinds := [.data, .data, .data, .handle], laidTests := true, laidLooks := .later }
def TrailTellsUptoCardSaid : Prop := Claim7.holds Tryd.pinned (.plain (OpenSpec.upto trailTellsSpec)) trailTellsUptoCard

/-- THE SECOND FORM's CARD OF 'towropelaw34.TellPackets'. -/
def tellPacketsUptoCard : Claim7 := { stood := { row := tellPacketsUptoRow, standIns := [], harness := (true, "5a03b2bdc9d195c1d3d3c70ca825cf56423e4cb4aafcafcf02a2ae2e415db7c1"), looks := true }, kinds := [], alts := [], laidByText := true, laidKinds := [.data, .data, .data], laidTests := true, laidLooks := .later }
def TellPacketsUptoCardSaid : Prop := Claim7.holds Tryd.pinned (.plain (OpenSpec.upto tellPacketsSpec)) tellPacketsUptoCard
end Rows
end Go.Proofs.YtcebnaknodghcaaDoor
