/-
  DERIVED. GIVEN WITH THE SEED: THE CARDS: each row of YtibbcfeaododhaaGreatDoorRows.lean that lists a variable, with what it lists TIED to the program's text (the seventh form; the later family's looks); each row that meets fmt, with fmt's text TOLD by the authors' own Lean function (tested against real Go, not proved from fmt's source: count such statements apart). THE CARD IS WHAT COUNTS. Prove the row's statement (the work); the ties are given (YtibbcfeaododhaaGreatDoorTie.lean); close each card by the builder's one call (the guide's Derived/Test/ToyasCard.lean, 'card_holds'). Laid BY PROGRAM, IN A SANDBOX (cutbox-door.mjs). By AI agents, Wed Nov 11 2026. No macro, syntax, notation, axiom, sorry.
-/
import Derived.Test.YtibbcfeaododhaaGreatDoorRows
import GoSem.ClaimSeven
namespace Go.Proofs.YtibbcfeaododhaaGreatDoor
namespace Rows

/-- THE TIED CARD OF 'heddlelaw02.TermReads'. -/
def termReadsCard : Claim7 := { stood := { row := termReadsRow, standIns := [], harness := (true, "87dd0cd43b51f3610a249afd53f7a8159b63534d3dc926573f71b7a163fd5c36"), looks := true }, kinds := [], alts := [], laidByText := true, laidKinds := [.data, .data, .data, .data, .handle, .sentinel, .sentinel, .pinned], laidTests := true, laidLooks := .later }
def TermReadsCardSaid : Prop := Claim7.holds Tryz.pinned (.plain (OpenSpec.ofChange termReadsSpec)) termReadsCard

/-- THE TIED CARD OF 'heddlelaw02.TermCompares'. -/
def termComparesCard : Claim7 := { stood := { row := termComparesRow, standIns := [], harness := (true, "87dd0cd43b51f3610a249afd53f7a8159b63534d3dc926573f71b7a163fd5c36"), looks := true }, kinds := [], alts := [], laidByText := true, laidKinds := [.data, .data, .data, .data, .handle, .sentinel, .sentinel, .pinned], laidTests := true, laidLooks := .later }
def TermComparesCardSaid : Prop := Claim7.holds Tryz.pinned (.plain (OpenSpec.ofChange termComparesSpec)) termComparesCard

/-- THE TIED CARD OF 'heddlelaw15.CodeActs'. -/
def codeActsCard : Claim7 := { stood := { row := codeActsRow, standIns := [], harness := (true, "87dd0cd43b51f3610a249afd53f7a8159b63534d3dc926573f71b7a163fd5c36"), looks := true }, kinds := [], alts := [], laidByText := true, laidKinds := [.data, .data, .data, .data, .handle, .listed, .data, .pinned], laidTests := true, laidLooks := .later }
def CodeActsCardSaid : Prop := Claim7.holds Tryz.pinned (.plain (OpenSpec.ofChange codeActsSpec)) codeActsCard

/-- THE TIED CARD OF 'heddlelaw02.TermParts'. -/
def termPartsCard : Claim7 := { stood := { row := termPartsRow, standIns := [], harness := (true, "87dd0cd43b51f3610a249afd53f7a8159b63534d3dc926573f71b7a163fd5c36"), looks := true }, kinds := [], alts := [], laidByText := true, laidKinds := [.data, .data, .data, .data, .handle, .sentinel, .sentinel, .pinned], laidTests := true, laidLooks := .later }
def TermPartsCardSaid : Prop := Claim7.holds Tryz.pinned (.plain (OpenSpec.ofChange termPartsSpec)) termPartsCard

/-- THE SECOND FORM's CARD OF 'heddlelaw02.TermReads'. -/
def termReadsUptoCard : Claim7 := { stood := { row := termReadsUptoRow, standIns := [], harness := (true, "87dd0cd43b51f3610a249afd53f7a8159b63534d3dc926573f71b7a163fd5c36"), looks := true }, kinds := [], alts := [], laidByText := true, laidKinds := [.data, .data, .data, .data, .handle, .sentinel, .sentinel, .pinned], laidTests := true, laidLooks := .later }
def TermReadsUptoCardSaid : Prop := Claim7.holds Tryz.pinned (.plain (OpenSpec.upto termReadsSpec)) termReadsUptoCard

/-- THE SECOND FORM's CARD OF 'heddlelaw02.TermCompares'. -/
def termComparesUptoCard : Claim7 := { stood := { row := termComparesUptoRow, standIns := [], harness := (true, "87dd0cd43b51f3610a249afd53f7a8159b63534d3dc926573f71b7a163fd5c36"), looks := true }, kinds := [], alts := [], laidByText := true, laidKinds := [.data, .data, .data, .data, .handle, .sentinel, .sentinel, .pinned], laidTests := true, laidLooks := .later }
def TermComparesUptoCardSaid : Prop := Claim7.holds Tryz.pinned (.plain (OpenSpec.upto termComparesSpec)) termComparesUptoCard

/-- THE SECOND FORM's CARD OF 'heddlelaw15.CodeActs'. -/
def codeActsUptoCard : Claim7 := { stood := { row := codeActsUptoRow, standIns := [], harness := (true, "87dd0cd43b51f3610a249afd53f7a8159b63534d3dc926573f71b7a163fd5c36"), looks := true }, kinds := [], alts := [], laidByText := true, laidKinds := [.data, .data, .data, .data, .handle, .listed, .data, .pinned], laidTests := true, laidLooks := .later }
def CodeActsUptoCardSaid : Prop := Claim7.holds Tryz.pinned (.plain (OpenSpec.upto codeActsSpec)) codeActsUptoCard

/-- THE SECOND FORM's CARD OF 'heddlelaw02.TermParts'. -/
def termPartsUptoCard : Claim7 := { stood := { row := termPartsUptoRow, standIns := [], harness := (true, "87dd0cd43b51f3610a249afd53f7a8159b63534d3dc926573f71b7a163fd5c36"), looks := true }, kinds := [], alts := [], laidByText := true, laidKinds := [.data, .data, .data, .data, .handle, .sentinel, .sentinel, .pinned], laidTests := true, laidLooks := .later }
def TermPartsUptoCardSaid : Prop := Claim7.holds Tryz.pinned (.plain (OpenSpec.upto termPartsSpec)) termPartsUptoCard
end Rows
end Go.Proofs.YtibbcfeaododhaaGreatDoor
