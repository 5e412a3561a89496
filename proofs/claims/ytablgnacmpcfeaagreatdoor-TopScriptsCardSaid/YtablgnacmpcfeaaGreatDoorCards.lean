/-
  DERIVED. GIVEN WITH THE SEED: THE CARDS: each row of YtablgnacmpcfeaaGreatDoorRows.lean that lists a variable, with what it lists TIED to the program's text (the seventh form; the later family's looks); each row that meets fmt, with fmt's text TOLD by the authors' own Lean function (tested against real Go, not proved from fmt's source: count such statements apart). THE CARD IS WHAT COUNTS. Prove the row's statement (the work); the ties are given (YtablgnacmpcfeaaGreatDoorTie.lean); close each card by the builder's one call (the guide's Derived/Test/ToyasCard.lean, 'card_holds'). Laid BY PROGRAM, IN A SANDBOX (cutbox-door.mjs). By AI agents, Wed Nov 11 2026. No macro, syntax, notation, axiom, sorry.
-/
import Derived.Test.YtablgnacmpcfeaaGreatDoorRows
import GoSem.ClaimSeven
namespace Go.Proofs.YtablgnacmpcfeaaGreatDoor
namespace Rows

/-- THE TIED CARD OF 'canopytop.TopSerial'. -/
def topSerialCard : Claim7 := { stood := { row := topSerialRow, standIns := [], harness := (true, "0e0e3595d165b9e31ee9234cb48c355db96d3c4ecdd6bfec8e077f6b70564262"), looks := true }, kinds := [], alts := [], laidByText := true, laidKinds := [.data, .data, .data, .data], laidTests := true, laidLooks := .later }
def TopSerialCardSaid : Prop := Claim7.holds Tryz.pinned (.plain (OpenSpec.ofChange topSerialSpec)) topSerialCard

/-- THE TIED CARD OF 'canopylaw.ServerRuns'. -/
def serverRunsCard : Claim7 := { stood := { row := serverRunsRow, standIns := [], harness := (true, "0e0e3595d165b9e31ee9234cb48c355db96d3c4ecdd6bfec8e077f6b70564262"), looks := true }, kinds := [], alts := [], laidByText := true, laidKinds := [.data, .data, .data, .data], laidTests := true, laidLooks := .later }
def ServerRunsCardSaid : Prop := Claim7.holds Tryz.pinned (.plain (OpenSpec.ofChange serverRunsSpec)) serverRunsCard

/-- THE TIED CARD OF 'canopytop.TopNow'. -/
def topNowCard : Claim7 := { stood := { row := topNowRow, standIns := [], harness := (true, "0e0e3595d165b9e31ee9234cb48c355db96d3c4ecdd6bfec8e077f6b70564262"), looks := true }, kinds := [], alts := [], laidByText := true, laidKinds := [.data, .data, .data, .data], laidTests := true, laidLooks := .later }
def TopNowCardSaid : Prop := Claim7.holds Tryz.pinned (.plain (OpenSpec.ofChange topNowSpec)) topNowCard

/-- THE TIED CARD OF 'canopytop.TopScripts'. -/
def topScriptsCard : Claim7 := { stood := { row := topScriptsRow, standIns := [], harness := (true, "0e0e3595d165b9e31ee9234cb48c355db96d3c4ecdd6bfec8e077f6b70564262"), looks := true }, kinds := [], alts := [], laidByText := true, laidKinds := [.data, .data, .data, .data, .sentinel, .sentinel, .data, .data, .data, .data, .data, .pinned], laidTests := true, laidLooks := .later }
def TopScriptsCardSaid : Prop := Claim7.holds Tryz.pinned (.plain (OpenSpec.ofChange topScriptsSpec)) topScriptsCard

/-- THE SECOND FORM's CARD OF 'canopytop.TopSerial'. -/
def topSerialUptoCard : Claim7 := { stood := { row := topSerialUptoRow, standIns := [], harness := (true, "0e0e3595d165b9e31ee9234cb48c355db96d3c4ecdd6bfec8e077f6b70564262"), looks := true }, kinds := [], alts := [], laidByText := true, laidKinds := [.data, .data, .data, .data], laidTests := true, laidLooks := .later }
def TopSerialUptoCardSaid : Prop := Claim7.holds Tryz.pinned (.plain (OpenSpec.upto topSerialSpec)) topSerialUptoCard

/-- THE SECOND FORM's CARD OF 'canopylaw.ServerRuns'. -/
def serverRunsUptoCard : Claim7 := { stood := { row := serverRunsUptoRow, standIns := [], harness := (true, "0e0e3595d165b9e31ee9234cb48c355db96d3c4ecdd6bfec8e077f6b70564262"), looks := true }, kinds := [], alts := [], laidByText := true, laidKinds := [.data, .data, .data, .data], laidTests := true, laidLooks := .later }
def ServerRunsUptoCardSaid : Prop := Claim7.holds Tryz.pinned (.plain (OpenSpec.upto serverRunsSpec)) serverRunsUptoCard

/-- THE SECOND FORM's CARD OF 'canopytop.TopNow'. -/
def topNowUptoCard : Claim7 := { stood := { row := topNowUptoRow, standIns := [], harness := (true, "0e0e3595d165b9e31ee9234cb48c355db96d3c4ecdd6bfec8e077f6b70564262"), looks := true }, kinds := [], alts := [], laidByText := true, laidKinds := [.data, .data, .data, .data], laidTests := true, laidLooks := .later }
def TopNowUptoCardSaid : Prop := Claim7.holds Tryz.pinned (.plain (OpenSpec.upto topNowSpec)) topNowUptoCard

/-- THE SECOND FORM's CARD OF 'canopytop.TopScripts'. -/
def topScriptsUptoCard : Claim7 := { stood := { row := topScriptsUptoRow, standIns := [], harness := (true, "0e0e3595d165b9e31ee9234cb48c355db96d3c4ecdd6bfec8e077f6b70564262"), looks := true }, kinds := [], alts := [], laidByText := true, laidKinds := [.data, .data, .data, .data, .sentinel, .sentinel, .data, .data, .data, .data, .data, .pinned], laidTests := true, laidLooks := .later }
def TopScriptsUptoCardSaid : Prop := Claim7.holds Tryz.pinned (.plain (OpenSpec.upto topScriptsSpec)) topScriptsUptoCard
end Rows
end Go.Proofs.YtablgnacmpcfeaaGreatDoor
