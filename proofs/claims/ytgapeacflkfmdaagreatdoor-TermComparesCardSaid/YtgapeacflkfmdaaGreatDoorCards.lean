/-
  DERIVED. GIVEN WITH THE SEED: THE CARDS: each row of YtgapeacflkfmdaaGreatDoorRows.lean that lists a variable, with what it lists TIED to the program's text (the seventh form; the later family's looks); each row that meets fmt, with fmt's text TOLD by the authors' own Lean function (tested against real Go, not proved from fmt's source: count such statements apart). THE CARD IS WHAT COUNTS. Prove the row's statement (the work); the ties are given (YtgapeacflkfmdaaGreatDoorTie.lean); close each card by the builder's one call (the guide's Derived/Test/ToyasCard.lean, 'card_holds'). Laid BY PROGRAM, IN A SANDBOX (cutbox-door.mjs). By AI agents, Wed Nov 11 2026. No macro, syntax, notation, axiom, sorry.
-/
import Derived.Test.YtgapeacflkfmdaaGreatDoorRows
import GoSem.ClaimSeven
namespace Go.Proofs.YtgapeacflkfmdaaGreatDoor
namespace Rows

/-- THE TIED CARD OF 'heddlelaw02.TermChecks'. -/
def termChecksCard : Claim7 := { stood := { row := termChecksRow, standIns := [], harness := (true, "85e3508f7f40786471db625866ad169faa73aa40a2186181ae3fcc5b5786e6fc"), looks := true }, kinds := [], alts := [], laidByText := true, laidKinds := [.data, .data, .data, .data, .handle, .sentinel, .sentinel, .pinned], laidTests := true, laidLooks := .later }
def TermChecksCardSaid : Prop := Claim7.holds Tryz.pinned (.plain (OpenSpec.ofChange termChecksSpec)) termChecksCard

/-- THE TIED CARD OF 'heddlelaw02.TermKinds'. -/
def termKindsCard : Claim7 := { stood := { row := termKindsRow, standIns := [], harness := (true, "85e3508f7f40786471db625866ad169faa73aa40a2186181ae3fcc5b5786e6fc"), looks := true }, kinds := [], alts := [], laidByText := true, laidKinds := [.data, .data, .data, .data, .handle, .sentinel, .sentinel, .pinned], laidTests := true, laidLooks := .later }
def TermKindsCardSaid : Prop := Claim7.holds Tryz.pinned (.plain (OpenSpec.ofChange termKindsSpec)) termKindsCard

/-- THE TIED CARD OF 'heddlelaw02.TermReads'. -/
def termReadsCard : Claim7 := { stood := { row := termReadsRow, standIns := [], harness := (true, "85e3508f7f40786471db625866ad169faa73aa40a2186181ae3fcc5b5786e6fc"), looks := true }, kinds := [], alts := [], laidByText := true, laidKinds := [.data, .data, .data, .data, .handle, .sentinel, .sentinel, .pinned], laidTests := true, laidLooks := .later }
def TermReadsCardSaid : Prop := Claim7.holds Tryz.pinned (.plain (OpenSpec.ofChange termReadsSpec)) termReadsCard

/-- THE TIED CARD OF 'heddlelaw02.TermBack'. -/
def termBackCard : Claim7 := { stood := { row := termBackRow, standIns := [], harness := (true, "85e3508f7f40786471db625866ad169faa73aa40a2186181ae3fcc5b5786e6fc"), looks := true }, kinds := [], alts := [], laidByText := true, laidKinds := [.data, .data, .data, .data, .handle, .sentinel, .sentinel, .pinned], laidTests := true, laidLooks := .later }
def TermBackCardSaid : Prop := Claim7.holds Tryz.pinned (.plain (OpenSpec.ofChange termBackSpec)) termBackCard

/-- THE TIED CARD OF 'heddlelaw02.TermBlanks'. -/
def termBlanksCard : Claim7 := { stood := { row := termBlanksRow, standIns := [], harness := (true, "85e3508f7f40786471db625866ad169faa73aa40a2186181ae3fcc5b5786e6fc"), looks := true }, kinds := [], alts := [], laidByText := true, laidKinds := [.data, .data, .data, .data, .handle, .sentinel, .sentinel, .pinned], laidTests := true, laidLooks := .later }
def TermBlanksCardSaid : Prop := Claim7.holds Tryz.pinned (.plain (OpenSpec.ofChange termBlanksSpec)) termBlanksCard

/-- THE TIED CARD OF 'heddlelaw02.TermCompares'. -/
def termComparesCard : Claim7 := { stood := { row := termComparesRow, standIns := [], harness := (true, "85e3508f7f40786471db625866ad169faa73aa40a2186181ae3fcc5b5786e6fc"), looks := true }, kinds := [], alts := [], laidByText := true, laidKinds := [.data, .data, .data, .data, .handle, .sentinel, .sentinel, .pinned], laidTests := true, laidLooks := .later }
def TermComparesCardSaid : Prop := Claim7.holds Tryz.pinned (.plain (OpenSpec.ofChange termComparesSpec)) termComparesCard

/-- THE TIED CARD OF 'heddlelaw02.TermLine'. -/
def termLineCard : Claim7 := { stood := { row := termLineRow, standIns := [], harness := (true, "85e3508f7f40786471db625866ad169faa73aa40a2186181ae3fcc5b5786e6fc"), looks := true }, kinds := [], alts := [], laidByText := true, laidKinds := [.data, .data, .data, .data, .handle, .sentinel, .sentinel, .pinned], laidTests := true, laidLooks := .later }
def TermLineCardSaid : Prop := Claim7.holds Tryz.pinned (.plain (OpenSpec.ofChange termLineSpec)) termLineCard

/-- THE TIED CARD OF 'heddlelaw02.TermPrints'. -/
def termPrintsCard : Claim7 := { stood := { row := termPrintsRow, standIns := [], harness := (true, "85e3508f7f40786471db625866ad169faa73aa40a2186181ae3fcc5b5786e6fc"), looks := true }, kinds := [], alts := [], laidByText := true, laidKinds := [.data, .data, .data, .data, .handle, .sentinel, .sentinel, .pinned], laidTests := true, laidLooks := .later }
def TermPrintsCardSaid : Prop := Claim7.holds Tryz.pinned (.plain (OpenSpec.ofChange termPrintsSpec)) termPrintsCard

/-- THE TIED CARD OF 'heddlelaw02.TermParts'. -/
def termPartsCard : Claim7 := { stood := { row := termPartsRow, standIns := [], harness := (true, "85e3508f7f40786471db625866ad169faa73aa40a2186181ae3fcc5b5786e6fc"), looks := true }, kinds := [], alts := [], laidByText := true, laidKinds := [.data, .data, .data, .data, .handle, .sentinel, .sentinel, .pinned], laidTests := true, laidLooks := .later }
def TermPartsCardSaid : Prop := Claim7.holds Tryz.pinned (.plain (OpenSpec.ofChange termPartsSpec)) termPartsCard

/-- THE TIED CARD OF 'heddlelaw10.LexBlanks'. -/
def lexBlanksCard : Claim7 := { stood := { row := lexBlanksRow, standIns := [], harness := (true, "85e3508f7f40786471db625866ad169faa73aa40a2186181ae3fcc5b5786e6fc"), looks := true }, kinds := [], alts := [], laidByText := true, laidKinds := [.data, .data, .data, .data, .handle, .sentinel, .sentinel, .pinned], laidTests := true, laidLooks := .later }
def LexBlanksCardSaid : Prop := Claim7.holds Tryz.pinned (.plain (OpenSpec.ofChange lexBlanksSpec)) lexBlanksCard

/-- THE TIED CARD OF 'heddlelaw10.LexJoins'. -/
def lexJoinsCard : Claim7 := { stood := { row := lexJoinsRow, standIns := [], harness := (true, "85e3508f7f40786471db625866ad169faa73aa40a2186181ae3fcc5b5786e6fc"), looks := true }, kinds := [], alts := [], laidByText := true, laidKinds := [.data, .data, .data, .data, .handle, .sentinel, .sentinel, .pinned], laidTests := true, laidLooks := .later }
def LexJoinsCardSaid : Prop := Claim7.holds Tryz.pinned (.plain (OpenSpec.ofChange lexJoinsSpec)) lexJoinsCard

/-- THE TIED CARD OF 'heddlelaw10.LexBack'. -/
def lexBackCard : Claim7 := { stood := { row := lexBackRow, standIns := [], harness := (true, "85e3508f7f40786471db625866ad169faa73aa40a2186181ae3fcc5b5786e6fc"), looks := true }, kinds := [], alts := [], laidByText := true, laidKinds := [.data, .data, .data, .data, .handle, .sentinel, .sentinel, .pinned], laidTests := true, laidLooks := .later }
def LexBackCardSaid : Prop := Claim7.holds Tryz.pinned (.plain (OpenSpec.ofChange lexBackSpec)) lexBackCard

/-- THE SECOND FORM's CARD OF 'heddlelaw02.TermChecks'. -/
def termChecksUptoCard : Claim7 := { stood := { row := termChecksUptoRow, standIns := [], harness := (true, "85e3508f7f40786471db625866ad169faa73aa40a2186181ae3fcc5b5786e6fc"), looks := true }, kinds := [], alts := [], laidByText := true, laidKinds := [.data, .data, .data, .data, .handle, .sentinel, .sentinel, .pinned], laidTests := true, laidLooks := .later }
def TermChecksUptoCardSaid : Prop := Claim7.holds Tryz.pinned (.plain (OpenSpec.upto termChecksSpec)) termChecksUptoCard

/-- THE SECOND FORM's CARD OF 'heddlelaw02.TermKinds'. -/
def termKindsUptoCard : Claim7 := { stood := { row := termKindsUptoRow, standIns := [], harness := (true, "85e3508f7f40786471db625866ad169faa73aa40a2186181ae3fcc5b5786e6fc"), looks := true }, kinds := [], alts := [], laidByText := true, laidKinds := [.data, .data, .data, .data, .handle, .sentinel, .sentinel, .pinned], laidTests := true, laidLooks := .later }
def TermKindsUptoCardSaid : Prop := Claim7.holds Tryz.pinned (.plain (OpenSpec.upto termKindsSpec)) termKindsUptoCard

/-- THE SECOND FORM's CARD OF 'heddlelaw02.TermReads'. -/
def termReadsUptoCard : Claim7 := { stood := { row := termReadsUptoRow, standIns := [], harness := (true, "85e3508f7f40786471db625866ad169faa73aa40a2186181ae3fcc5b5786e6fc"), looks := true }, kinds := [], alts := [], laidByText := true, laidKinds := [.data, .data, .data, .data, .handle, .sentinel, .sentinel, .pinned], laidTests := true, laidLooks := .later }
def TermReadsUptoCardSaid : Prop := Claim7.holds Tryz.pinned (.plain (OpenSpec.upto termReadsSpec)) termReadsUptoCard

/-- THE SECOND FORM's CARD OF 'heddlelaw02.TermBack'. -/
def termBackUptoCard : Claim7 := { stood := { row := termBackUptoRow, standIns := [], harness := (true, "85e3508f7f40786471db625866ad169faa73aa40a2186181ae3fcc5b5786e6fc"), looks := true }, kinds := [], alts := [], laidByText := true, laidKinds := [.data, .data, .data, .data, .handle, .sentinel, .sentinel, .pinned], laidTests := true, laidLooks := .later }
def TermBackUptoCardSaid : Prop := Claim7.holds Tryz.pinned (.plain (OpenSpec.upto termBackSpec)) termBackUptoCard

/-- THE SECOND FORM's CARD OF 'heddlelaw02.TermBlanks'. -/
def termBlanksUptoCard : Claim7 := { stood := { row := termBlanksUptoRow, standIns := [], harness := (true, "85e3508f7f40786471db625866ad169faa73aa40a2186181ae3fcc5b5786e6fc"), looks := true }, kinds := [], alts := [], laidByText := true, laidKinds := [.data, .data, .data, .data, .handle, .sentinel, .sentinel, .pinned], laidTests := true, laidLooks := .later }
def TermBlanksUptoCardSaid : Prop := Claim7.holds Tryz.pinned (.plain (OpenSpec.upto termBlanksSpec)) termBlanksUptoCard

/-- THE SECOND FORM's CARD OF 'heddlelaw02.TermCompares'. -/
def termComparesUptoCard : Claim7 := { stood := { row := termComparesUptoRow, standIns := [], harness := (true, "85e3508f7f40786471db625866ad169faa73aa40a2186181ae3fcc5b5786e6fc"), looks := true }, kinds := [], alts := [], laidByText := true, laidKinds := [.data, .data, .data, .data, .handle, .sentinel, .sentinel, .pinned], laidTests := true, laidLooks := .later }
def TermComparesUptoCardSaid : Prop := Claim7.holds Tryz.pinned (.plain (OpenSpec.upto termComparesSpec)) termComparesUptoCard

/-- THE SECOND FORM's CARD OF 'heddlelaw02.TermLine'. -/
def termLineUptoCard : Claim7 := { stood := { row := termLineUptoRow, standIns := [], harness := (true, "85e3508f7f40786471db625866ad169faa73aa40a2186181ae3fcc5b5786e6fc"), looks := true }, kinds := [], alts := [], laidByText := true, laidKinds := [.data, .data, .data, .data, .handle, .sentinel, .sentinel, .pinned], laidTests := true, laidLooks := .later }
def TermLineUptoCardSaid : Prop := Claim7.holds Tryz.pinned (.plain (OpenSpec.upto termLineSpec)) termLineUptoCard

/-- THE SECOND FORM's CARD OF 'heddlelaw02.TermPrints'. -/
def termPrintsUptoCard : Claim7 := { stood := { row := termPrintsUptoRow, standIns := [], harness := (true, "85e3508f7f40786471db625866ad169faa73aa40a2186181ae3fcc5b5786e6fc"), looks := true }, kinds := [], alts := [], laidByText := true, laidKinds := [.data, .data, .data, .data, .handle, .sentinel, .sentinel, .pinned], laidTests := true, laidLooks := .later }
def TermPrintsUptoCardSaid : Prop := Claim7.holds Tryz.pinned (.plain (OpenSpec.upto termPrintsSpec)) termPrintsUptoCard

/-- THE SECOND FORM's CARD OF 'heddlelaw02.TermParts'. -/
def termPartsUptoCard : Claim7 := { stood := { row := termPartsUptoRow, standIns := [], harness := (true, "85e3508f7f40786471db625866ad169faa73aa40a2186181ae3fcc5b5786e6fc"), looks := true }, kinds := [], alts := [], laidByText := true, laidKinds := [.data, .data, .data, .data, .handle, .sentinel, .sentinel, .pinned], laidTests := true, laidLooks := .later }
def TermPartsUptoCardSaid : Prop := Claim7.holds Tryz.pinned (.plain (OpenSpec.upto termPartsSpec)) termPartsUptoCard

/-- THE SECOND FORM's CARD OF 'heddlelaw10.LexBlanks'. -/
def lexBlanksUptoCard : Claim7 := { stood := { row := lexBlanksUptoRow, standIns := [], harness := (true, "85e3508f7f40786471db625866ad169faa73aa40a2186181ae3fcc5b5786e6fc"), looks := true }, kinds := [], alts := [], laidByText := true, laidKinds := [.data, .data, .data, .data, .handle, .sentinel, .sentinel, .pinned], laidTests := true, laidLooks := .later }
def LexBlanksUptoCardSaid : Prop := Claim7.holds Tryz.pinned (.plain (OpenSpec.upto lexBlanksSpec)) lexBlanksUptoCard

/-- THE SECOND FORM's CARD OF 'heddlelaw10.LexJoins'. -/
def lexJoinsUptoCard : Claim7 := { stood := { row := lexJoinsUptoRow, standIns := [], harness := (true, "85e3508f7f40786471db625866ad169faa73aa40a2186181ae3fcc5b5786e6fc"), looks := true }, kinds := [], alts := [], laidByText := true, laidKinds := [.data, .data, .data, .data, .handle, .sentinel, .sentinel, .pinned], laidTests := true, laidLooks := .later }
def LexJoinsUptoCardSaid : Prop := Claim7.holds Tryz.pinned (.plain (OpenSpec.upto lexJoinsSpec)) lexJoinsUptoCard

/-- THE SECOND FORM's CARD OF 'heddlelaw10.LexBack'. -/
def lexBackUptoCard : Claim7 := { stood := { row := lexBackUptoRow, standIns := [], harness := (true, "85e3508f7f40786471db625866ad169faa73aa40a2186181ae3fcc5b5786e6fc"), looks := true }, kinds := [], alts := [], laidByText := true, laidKinds := [.data, .data, .data, .data, .handle, .sentinel, .sentinel, .pinned], laidTests := true, laidLooks := .later }
def LexBackUptoCardSaid : Prop := Claim7.holds Tryz.pinned (.plain (OpenSpec.upto lexBackSpec)) lexBackUptoCard
end Rows
end Go.Proofs.YtgapeacflkfmdaaGreatDoor
