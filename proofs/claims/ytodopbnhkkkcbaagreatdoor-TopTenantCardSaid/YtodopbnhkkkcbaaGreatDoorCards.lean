/-
  DERIVED. GIVEN WITH THE SEED: THE CARDS: each row of YtodopbnhkkkcbaaGreatDoorRows.lean that lists a variable, with what it lists TIED to the program's text (the seventh form; the later family's looks); each row that meets fmt, with fmt's text TOLD by the authors' own Lean function (tested against real Go, not proved from fmt's source: count such statements apart). THE CARD IS WHAT COUNTS. Prove the row's statement (the work); the ties are given (YtodopbnhkkkcbaaGreatDoorTie.lean); close each card by the builder's one call (the guide's Derived/Test/ToyasCard.lean, 'card_holds'). Laid BY PROGRAM, IN A SANDBOX (cutbox-door.mjs). By AI agents, Wed Nov 11 2026. No macro, syntax, notation, axiom, sorry.
-/
import Derived.Test.YtodopbnhkkkcbaaGreatDoorRows
import GoSem.ClaimSeven
namespace Go.Proofs.YtodopbnhkkkcbaaGreatDoor
namespace Rows

/-- THE TIED CARD OF 'canopytop.TopHidden'. -/
def topHiddenCard : Claim7 := { stood := { row := topHiddenRow, standIns := [], harness := (true, "9c09140d02024a8014542c0a80f5cfdcf2dc98be97b19e64b1c620f849557230"), looks := false }, kinds := [], alts := [], laidByText := true, laidKinds := [.data, .data, .data, .data], laidTests := true, laidLooks := .later }
def TopHiddenCardSaid : Prop := Claim7.holds Tryz.pinned (.plain (OpenSpec.ofChange topHiddenSpec)) topHiddenCard

/-- THE TIED CARD OF 'canopytop.TopTenant'. -/
def topTenantCard : Claim7 := { stood := { row := topTenantRow, standIns := [], harness := (true, "9c09140d02024a8014542c0a80f5cfdcf2dc98be97b19e64b1c620f849557230"), looks := false }, kinds := [], alts := [], laidByText := true, laidKinds := [.data, .data, .data, .data], laidTests := true, laidLooks := .later }
def TopTenantCardSaid : Prop := Claim7.holds Tryz.pinned (.plain (OpenSpec.ofChange topTenantSpec)) topTenantCard

/-- THE TIED CARD OF 'canopytop.TopFresh'. -/
def topFreshCard : Claim7 := { stood := { row := topFreshRow, standIns := [], harness := (true, "9c09140d02024a8014542c0a80f5cfdcf2dc98be97b19e64b1c620f849557230"), looks := false }, kinds := [], alts := [], laidByText := true, laidKinds := [.data, .data, .data, .data], laidTests := true, laidLooks := .later }
def TopFreshCardSaid : Prop := Claim7.holds Tryz.pinned (.plain (OpenSpec.ofChange topFreshSpec)) topFreshCard

/-- THE TIED CARD OF 'canopytop.TopProofs'. -/
def topProofsCard : Claim7 := { stood := { row := topProofsRow, standIns := [], harness := (true, "9c09140d02024a8014542c0a80f5cfdcf2dc98be97b19e64b1c620f849557230"), looks := false }, kinds := [], alts := [], laidByText := true, laidKinds := [.data, .data, .data, .data], laidTests := true, laidLooks := .later }
def TopProofsCardSaid : Prop := Claim7.holds Tryz.pinned (.plain (OpenSpec.ofChange topProofsSpec)) topProofsCard

/-- THE TIED CARD OF 'canopytop.TopFollows'. -/
def topFollowsCard : Claim7 := { stood := { row := topFollowsRow, standIns := [], harness := (true, "9c09140d02024a8014542c0a80f5cfdcf2dc98be97b19e64b1c620f849557230"), looks := false }, kinds := [], alts := [], laidByText := true, laidKinds := [.data, .data, .data, .data], laidTests := true, laidLooks := .later }
def TopFollowsCardSaid : Prop := Claim7.holds Tryz.pinned (.plain (OpenSpec.ofChange topFollowsSpec)) topFollowsCard

/-- THE TIED CARD OF 'canopytop.TopSerial'. -/
def topSerialCard : Claim7 := { stood := { row := topSerialRow, standIns := [], harness := (true, "9c09140d02024a8014542c0a80f5cfdcf2dc98be97b19e64b1c620f849557230"), looks := false }, kinds := [], alts := [], laidByText := true, laidKinds := [.data, .data, .data, .data], laidTests := true, laidLooks := .later }
def TopSerialCardSaid : Prop := Claim7.holds Tryz.pinned (.plain (OpenSpec.ofChange topSerialSpec)) topSerialCard

/-- THE TIED CARD OF 'canopytop.TopNow'. -/
def topNowCard : Claim7 := { stood := { row := topNowRow, standIns := [], harness := (true, "9c09140d02024a8014542c0a80f5cfdcf2dc98be97b19e64b1c620f849557230"), looks := false }, kinds := [], alts := [], laidByText := true, laidKinds := [.data, .data, .data, .data], laidTests := true, laidLooks := .later }
def TopNowCardSaid : Prop := Claim7.holds Tryz.pinned (.plain (OpenSpec.ofChange topNowSpec)) topNowCard

/-- THE SECOND FORM's CARD OF 'canopytop.TopHidden'. -/
def topHiddenUptoCard : Claim7 := { stood := { row := topHiddenUptoRow, standIns := [], harness := (true, "9c09140d02024a8014542c0a80f5cfdcf2dc98be97b19e64b1c620f849557230"), looks := false }, kinds := [], alts := [], laidByText := true, laidKinds := [.data, .data, .data, .data], laidTests := true, laidLooks := .later }
def TopHiddenUptoCardSaid : Prop := Claim7.holds Tryz.pinned (.plain (OpenSpec.upto topHiddenSpec)) topHiddenUptoCard

/-- THE SECOND FORM's CARD OF 'canopytop.TopTenant'. -/
def topTenantUptoCard : Claim7 := { stood := { row := topTenantUptoRow, standIns := [], harness := (true, "9c09140d02024a8014542c0a80f5cfdcf2dc98be97b19e64b1c620f849557230"), looks := false }, kinds := [], alts := [], laidByText := true, laidKinds := [.data, .data, .data, .data], laidTests := true, laidLooks := .later }
def TopTenantUptoCardSaid : Prop := Claim7.holds Tryz.pinned (.plain (OpenSpec.upto topTenantSpec)) topTenantUptoCard

/-- THE SECOND FORM's CARD OF 'canopytop.TopFresh'. -/
def topFreshUptoCard : Claim7 := { stood := { row := topFreshUptoRow, standIns := [], harness := (true, "9c09140d02024a8014542c0a80f5cfdcf2dc98be97b19e64b1c620f849557230"), looks := false }, kinds := [], alts := [], laidByText := true, laidKinds := [.data, .data, .data, .data], laidTests := true, laidLooks := .later }
def TopFreshUptoCardSaid : Prop := Claim7.holds Tryz.pinned (.plain (OpenSpec.upto topFreshSpec)) topFreshUptoCard

/-- THE SECOND FORM's CARD OF 'canopytop.TopProofs'. -/
def topProofsUptoCard : Claim7 := { stood := { row := topProofsUptoRow, standIns := [], harness := (true, "9c09140d02024a8014542c0a80f5cfdcf2dc98be97b19e64b1c620f849557230"), looks := false }, kinds := [], alts := [], laidByText := true, laidKinds := [.data, .data, .data, .data], laidTests := true, laidLooks := .later }
def TopProofsUptoCardSaid : Prop := Claim7.holds Tryz.pinned (.plain (OpenSpec.upto topProofsSpec)) topProofsUptoCard

/-- THE SECOND FORM's CARD OF 'canopytop.TopFollows'. -/
def topFollowsUptoCard : Claim7 := { stood := { row := topFollowsUptoRow, standIns := [], harness := (true, "9c09140d02024a8014542c0a80f5cfdcf2dc98be97b19e64b1c620f849557230"), looks := false }, kinds := [], alts := [], laidByText := true, laidKinds := [.data, .data, .data, .data], laidTests := true, laidLooks := .later }
def TopFollowsUptoCardSaid : Prop := Claim7.holds Tryz.pinned (.plain (OpenSpec.upto topFollowsSpec)) topFollowsUptoCard

/-- THE SECOND FORM's CARD OF 'canopytop.TopSerial'. -/
def topSerialUptoCard : Claim7 := { stood := { row := topSerialUptoRow, standIns := [], harness := (true, "9c09140d02024a8014542c0a80f5cfdcf2dc98be97b19e64b1c620f849557230"), looks := false }, kinds := [], alts := [], laidByText := true, laidKinds := [.data, .data, .data, .data], laidTests := true, laidLooks := .later }
def TopSerialUptoCardSaid : Prop := Claim7.holds Tryz.pinned (.plain (OpenSpec.upto topSerialSpec)) topSerialUptoCard

/-- THE SECOND FORM's CARD OF 'canopytop.TopNow'. -/
def topNowUptoCard : Claim7 := { stood := { row := topNowUptoRow, standIns := [], harness := (true, "9c09140d02024a8014542c0a80f5cfdcf2dc98be97b19e64b1c620f849557230"), looks := false }, kinds := [], alts := [], laidByText := true, laidKinds := [.data, .data, .data, .data], laidTests := true, laidLooks := .later }
def TopNowUptoCardSaid : Prop := Claim7.holds Tryz.pinned (.plain (OpenSpec.upto topNowSpec)) topNowUptoCard
end Rows
end Go.Proofs.YtodopbnhkkkcbaaGreatDoor
