/-
  DERIVED. GIVEN WITH THE SEED: THE CARDS: each row of YtlhpfgpagggdlaaGreatDoorRows.lean that lists a variable, with what it lists TIED to the program's text (the seventh form; the later family's looks); each row that meets fmt, with fmt's text TOLD by the authors' own Lean function (tested against real Go, not proved from fmt's source: count such statements apart). THE CARD IS WHAT COUNTS. Prove the row's statement (the work); the ties are given (YtlhpfgpagggdlaaGreatDoorTie.lean); close each card by the builder's one call (the guide's Derived/Test/ToyasCard.lean, 'card_holds'). Laid BY PROGRAM, IN A SANDBOX (cutbox-door.mjs). By AI agents, Wed Nov 11 2026. No macro, syntax, notation, axiom, sorry.
-/
import Derived.Test.YtlhpfgpagggdlaaGreatDoorRows
import GoSem.ClaimSeven
namespace Go.Proofs.YtlhpfgpagggdlaaGreatDoor
namespace Rows

/-- THE TIED CARD OF 'canopytop.TopFollows'. -/
def topFollowsCard : Claim7 := { stood := { row := topFollowsRow, standIns := [], harness := (true, "ff83f7ceb9a74bf47739411dfc4f807a8397bbb043ba4621c325979193d3fd39"), looks := false }, kinds := [], alts := [], laidByText := true, laidKinds := [.data, .data, .data, .data], laidTests := true, laidLooks := .later }
def TopFollowsCardSaid : Prop := Claim7.holds Tryz.pinned (.plain (OpenSpec.ofChange topFollowsSpec)) topFollowsCard

/-- THE TIED CARD OF 'canopytop.TopTurns'. -/
def topTurnsCard : Claim7 := { stood := { row := topTurnsRow, standIns := [], harness := (true, "ff83f7ceb9a74bf47739411dfc4f807a8397bbb043ba4621c325979193d3fd39"), looks := false }, kinds := [], alts := [], laidByText := true, laidKinds := [.data, .data, .data, .data], laidTests := true, laidLooks := .later }
def TopTurnsCardSaid : Prop := Claim7.holds Tryz.pinned (.plain (OpenSpec.ofChange topTurnsSpec)) topTurnsCard

/-- THE TIED CARD OF 'canopytop.TopSerial'. -/
def topSerialCard : Claim7 := { stood := { row := topSerialRow, standIns := [], harness := (true, "ff83f7ceb9a74bf47739411dfc4f807a8397bbb043ba4621c325979193d3fd39"), looks := false }, kinds := [], alts := [], laidByText := true, laidKinds := [.data, .data, .data, .data], laidTests := true, laidLooks := .later }
def TopSerialCardSaid : Prop := Claim7.holds Tryz.pinned (.plain (OpenSpec.ofChange topSerialSpec)) topSerialCard

/-- THE TIED CARD OF 'canopytop.TopNow'. -/
def topNowCard : Claim7 := { stood := { row := topNowRow, standIns := [], harness := (true, "ff83f7ceb9a74bf47739411dfc4f807a8397bbb043ba4621c325979193d3fd39"), looks := false }, kinds := [], alts := [], laidByText := true, laidKinds := [.data, .data, .data, .data], laidTests := true, laidLooks := .later }
def TopNowCardSaid : Prop := Claim7.holds Tryz.pinned (.plain (OpenSpec.ofChange topNowSpec)) topNowCard

/-- THE TIED CARD OF 'canopytop.TopDurable'. -/
def topDurableCard : Claim7 := { stood := { row := topDurableRow, standIns := [], harness := (true, "ff83f7ceb9a74bf47739411dfc4f807a8397bbb043ba4621c325979193d3fd39"), looks := false }, kinds := [], alts := [], laidByText := true, laidKinds := [.data, .data, .data, .data], laidTests := true, laidLooks := .later }
def TopDurableCardSaid : Prop := Claim7.holds Tryz.pinned (.plain (OpenSpec.ofChange topDurableSpec)) topDurableCard

/-- THE TIED CARD OF 'canopytop.TopWhole'. -/
def topWholeCard : Claim7 := { stood := { row := topWholeRow, standIns := [], harness := (true, "ff83f7ceb9a74bf47739411dfc4f807a8397bbb043ba4621c325979193d3fd39"), looks := false }, kinds := [], alts := [], laidByText := true, laidKinds := [.data, .data, .data, .data], laidTests := true, laidLooks := .later }
def TopWholeCardSaid : Prop := Claim7.holds Tryz.pinned (.plain (OpenSpec.ofChange topWholeSpec)) topWholeCard

/-- THE TIED CARD OF 'canopytop.TopHidden'. -/
def topHiddenCard : Claim7 := { stood := { row := topHiddenRow, standIns := [], harness := (true, "ff83f7ceb9a74bf47739411dfc4f807a8397bbb043ba4621c325979193d3fd39"), looks := false }, kinds := [], alts := [], laidByText := true, laidKinds := [.data, .data, .data, .data], laidTests := true, laidLooks := .later }
def TopHiddenCardSaid : Prop := Claim7.holds Tryz.pinned (.plain (OpenSpec.ofChange topHiddenSpec)) topHiddenCard

/-- THE TIED CARD OF 'canopytop.TopAbort'. -/
def topAbortCard : Claim7 := { stood := { row := topAbortRow, standIns := [], harness := (true, "ff83f7ceb9a74bf47739411dfc4f807a8397bbb043ba4621c325979193d3fd39"), looks := false }, kinds := [], alts := [], laidByText := true, laidKinds := [.data, .data, .data, .data], laidTests := true, laidLooks := .later }
def TopAbortCardSaid : Prop := Claim7.holds Tryz.pinned (.plain (OpenSpec.ofChange topAbortSpec)) topAbortCard

/-- THE TIED CARD OF 'canopytop.TopDown'. -/
def topDownCard : Claim7 := { stood := { row := topDownRow, standIns := [], harness := (true, "ff83f7ceb9a74bf47739411dfc4f807a8397bbb043ba4621c325979193d3fd39"), looks := false }, kinds := [], alts := [], laidByText := true, laidKinds := [.data, .data, .data, .data], laidTests := true, laidLooks := .later }
def TopDownCardSaid : Prop := Claim7.holds Tryz.pinned (.plain (OpenSpec.ofChange topDownSpec)) topDownCard

/-- THE TIED CARD OF 'canopytop.TopBad'. -/
def topBadCard : Claim7 := { stood := { row := topBadRow, standIns := [], harness := (true, "ff83f7ceb9a74bf47739411dfc4f807a8397bbb043ba4621c325979193d3fd39"), looks := false }, kinds := [], alts := [], laidByText := true, laidKinds := [.data, .data, .data, .data], laidTests := true, laidLooks := .later }
def TopBadCardSaid : Prop := Claim7.holds Tryz.pinned (.plain (OpenSpec.ofChange topBadSpec)) topBadCard

/-- THE TIED CARD OF 'canopytop.TopGrows'. -/
def topGrowsCard : Claim7 := { stood := { row := topGrowsRow, standIns := [], harness := (true, "ff83f7ceb9a74bf47739411dfc4f807a8397bbb043ba4621c325979193d3fd39"), looks := false }, kinds := [], alts := [], laidByText := true, laidKinds := [.data, .data, .data, .data], laidTests := true, laidLooks := .later }
def TopGrowsCardSaid : Prop := Claim7.holds Tryz.pinned (.plain (OpenSpec.ofChange topGrowsSpec)) topGrowsCard

/-- THE TIED CARD OF 'canopytop.TopReads'. -/
def topReadsCard : Claim7 := { stood := { row := topReadsRow, standIns := [], harness := (true, "ff83f7ceb9a74bf47739411dfc4f807a8397bbb043ba4621c325979193d3fd39"), looks := false }, kinds := [], alts := [], laidByText := true, laidKinds := [.data, .data, .data, .data], laidTests := true, laidLooks := .later }
def TopReadsCardSaid : Prop := Claim7.holds Tryz.pinned (.plain (OpenSpec.ofChange topReadsSpec)) topReadsCard

/-- THE SECOND FORM's CARD OF 'canopytop.TopFollows'. -/
def topFollowsUptoCard : Claim7 := { stood := { row := topFollowsUptoRow, standIns := [], harness := (true, "ff83f7ceb9a74bf47739411dfc4f807a8397bbb043ba4621c325979193d3fd39"), looks := false }, kinds := [], alts := [], laidByText := true, laidKinds := [.data, .data, .data, .data], laidTests := true, laidLooks := .later }
def TopFollowsUptoCardSaid : Prop := Claim7.holds Tryz.pinned (.plain (OpenSpec.upto topFollowsSpec)) topFollowsUptoCard

/-- THE SECOND FORM's CARD OF 'canopytop.TopTurns'. -/
def topTurnsUptoCard : Claim7 := { stood := { row := topTurnsUptoRow, standIns := [], harness := (true, "ff83f7ceb9a74bf47739411dfc4f807a8397bbb043ba4621c325979193d3fd39"), looks := false }, kinds := [], alts := [], laidByText := true, laidKinds := [.data, .data, .data, .data], laidTests := true, laidLooks := .later }
def TopTurnsUptoCardSaid : Prop := Claim7.holds Tryz.pinned (.plain (OpenSpec.upto topTurnsSpec)) topTurnsUptoCard

/-- THE SECOND FORM's CARD OF 'canopytop.TopSerial'. -/
def topSerialUptoCard : Claim7 := { stood := { row := topSerialUptoRow, standIns := [], harness := (true, "ff83f7ceb9a74bf47739411dfc4f807a8397bbb043ba4621c325979193d3fd39"), looks := false }, kinds := [], alts := [], laidByText := true, laidKinds := [.data, .data, .data, .data], laidTests := true, laidLooks := .later }
def TopSerialUptoCardSaid : Prop := Claim7.holds Tryz.pinned (.plain (OpenSpec.upto topSerialSpec)) topSerialUptoCard

/-- THE SECOND FORM's CARD OF 'canopytop.TopNow'. -/
def topNowUptoCard : Claim7 := { stood := { row := topNowUptoRow, standIns := [], harness := (true, "ff83f7ceb9a74bf47739411dfc4f807a8397bbb043ba4621c325979193d3fd39"), looks := false }, kinds := [], alts := [], laidByText := true, laidKinds := [.data, .data, .data, .data], laidTests := true, laidLooks := .later }
def TopNowUptoCardSaid : Prop := Claim7.holds Tryz.pinned (.plain (OpenSpec.upto topNowSpec)) topNowUptoCard

/-- THE SECOND FORM's CARD OF 'canopytop.TopDurable'. -/
def topDurableUptoCard : Claim7 := { stood := { row := topDurableUptoRow, standIns := [], harness := (true, "ff83f7ceb9a74bf47739411dfc4f807a8397bbb043ba4621c325979193d3fd39"), looks := false }, kinds := [], alts := [], laidByText := true, laidKinds := [.data, .data, .data, .data], laidTests := true, laidLooks := .later }
def TopDurableUptoCardSaid : Prop := Claim7.holds Tryz.pinned (.plain (OpenSpec.upto topDurableSpec)) topDurableUptoCard

/-- THE SECOND FORM's CARD OF 'canopytop.TopWhole'. -/
def topWholeUptoCard : Claim7 := { stood := { row := topWholeUptoRow, standIns := [], harness := (true, "ff83f7ceb9a74bf47739411dfc4f807a8397bbb043ba4621c325979193d3fd39"), looks := false }, kinds := [], alts := [], laidByText := true, laidKinds := [.data, .data, .data, .data], laidTests := true, laidLooks := .later }
def TopWholeUptoCardSaid : Prop := Claim7.holds Tryz.pinned (.plain (OpenSpec.upto topWholeSpec)) topWholeUptoCard

/-- THE SECOND FORM's CARD OF 'canopytop.TopHidden'. -/
def topHiddenUptoCard : Claim7 := { stood := { row := topHiddenUptoRow, standIns := [], harness := (true, "ff83f7ceb9a74bf47739411dfc4f807a8397bbb043ba4621c325979193d3fd39"), looks := false }, kinds := [], alts := [], laidByText := true, laidKinds := [.data, .data, .data, .data], laidTests := true, laidLooks := .later }
def TopHiddenUptoCardSaid : Prop := Claim7.holds Tryz.pinned (.plain (OpenSpec.upto topHiddenSpec)) topHiddenUptoCard

/-- THE SECOND FORM's CARD OF 'canopytop.TopAbort'. -/
def topAbortUptoCard : Claim7 := { stood := { row := topAbortUptoRow, standIns := [], harness := (true, "ff83f7ceb9a74bf47739411dfc4f807a8397bbb043ba4621c325979193d3fd39"), looks := false }, kinds := [], alts := [], laidByText := true, laidKinds := [.data, .data, .data, .data], laidTests := true, laidLooks := .later }
def TopAbortUptoCardSaid : Prop := Claim7.holds Tryz.pinned (.plain (OpenSpec.upto topAbortSpec)) topAbortUptoCard

/-- THE SECOND FORM's CARD OF 'canopytop.TopDown'. -/
def topDownUptoCard : Claim7 := { stood := { row := topDownUptoRow, standIns := [], harness := (true, "ff83f7ceb9a74bf47739411dfc4f807a8397bbb043ba4621c325979193d3fd39"), looks := false }, kinds := [], alts := [], laidByText := true, laidKinds := [.data, .data, .data, .data], laidTests := true, laidLooks := .later }
def TopDownUptoCardSaid : Prop := Claim7.holds Tryz.pinned (.plain (OpenSpec.upto topDownSpec)) topDownUptoCard

/-- THE SECOND FORM's CARD OF 'canopytop.TopBad'. -/
def topBadUptoCard : Claim7 := { stood := { row := topBadUptoRow, standIns := [], harness := (true, "ff83f7ceb9a74bf47739411dfc4f807a8397bbb043ba4621c325979193d3fd39"), looks := false }, kinds := [], alts := [], laidByText := true, laidKinds := [.data, .data, .data, .data], laidTests := true, laidLooks := .later }
def TopBadUptoCardSaid : Prop := Claim7.holds Tryz.pinned (.plain (OpenSpec.upto topBadSpec)) topBadUptoCard

/-- THE SECOND FORM's CARD OF 'canopytop.TopGrows'. -/
def topGrowsUptoCard : Claim7 := { stood := { row := topGrowsUptoRow, standIns := [], harness := (true, "ff83f7ceb9a74bf47739411dfc4f807a8397bbb043ba4621c325979193d3fd39"), looks := false }, kinds := [], alts := [], laidByText := true, laidKinds := [.data, .data, .data, .data], laidTests := true, laidLooks := .later }
def TopGrowsUptoCardSaid : Prop := Claim7.holds Tryz.pinned (.plain (OpenSpec.upto topGrowsSpec)) topGrowsUptoCard

/-- THE SECOND FORM's CARD OF 'canopytop.TopReads'. -/
def topReadsUptoCard : Claim7 := { stood := { row := topReadsUptoRow, standIns := [], harness := (true, "ff83f7ceb9a74bf47739411dfc4f807a8397bbb043ba4621c325979193d3fd39"), looks := false }, kinds := [], alts := [], laidByText := true, laidKinds := [.data, .data, .data, .data], laidTests := true, laidLooks := .later }
def TopReadsUptoCardSaid : Prop := Claim7.holds Tryz.pinned (.plain (OpenSpec.upto topReadsSpec)) topReadsUptoCard
end Rows
end Go.Proofs.YtlhpfgpagggdlaaGreatDoor
