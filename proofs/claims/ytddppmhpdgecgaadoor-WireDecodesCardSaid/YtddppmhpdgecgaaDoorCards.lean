/-
  DERIVED. GIVEN WITH THE SEED: THE CARDS: each row of YtddppmhpdgecgaaDoorRows.lean that lists a variable, with what it lists TIED to the program's text (the seventh form; the later family's looks); each row that meets fmt, with fmt's text TOLD by the authors' own Lean function (tested against real Go, not proved from fmt's source: count such statements apart). THE CARD IS WHAT COUNTS. Prove the row's statement (the work); the ties are given (YtddppmhpdgecgaaDoorTie.lean); close each card by the builder's one call (the guide's Derived/Test/ToyasCard.lean, 'card_holds'). Laid BY PROGRAM, IN A SANDBOX (cutbox-door.mjs). By AI agents, Wed Nov 11 2026. No macro, syntax, notation, axiom, sorry.
-/
import Derived.Test.YtddppmhpdgecgaaDoorRows
import GoSem.ClaimSeven
namespace Go.Proofs.YtddppmhpdgecgaaDoor
namespace Rows

/-- THE TIED CARD OF 'canopylaw.WireChecks'. -/
def wireChecksCard : Claim7 := { stood := { row := wireChecksRow, standIns := [], harness := (true, "d94cdd4198858b4533a5fe2188f14f25e4dbc0d1dfb792e8e66bd42c5535b2e5"), looks := true }, kinds := [], alts := [], laidByText := true, laidKinds := [.data], laidTests := true, laidLooks := .later }
def WireChecksCardSaid : Prop := Claim7.holds Tryd.pinned (.plain (OpenSpec.ofChange wireChecksSpec)) wireChecksCard

/-- THE TIED CARD OF 'canopylaw.WireEncodes'. -/
def wireEncodesCard : Claim7 := { stood := { row := wireEncodesRow, standIns := [], harness := (true, "d94cdd4198858b4533a5fe2188f14f25e4dbc0d1dfb792e8e66bd42c5535b2e5"), looks := true }, kinds := [], alts := [], laidByText := true, laidKinds := [.data], laidTests := true, laidLooks := .later }
def WireEncodesCardSaid : Prop := Claim7.holds Tryd.pinned (.plain (OpenSpec.ofChange wireEncodesSpec)) wireEncodesCard

/-- THE TIED CARD OF 'canopylaw.WireDecodes'. -/
def wireDecodesCard : Claim7 := { stood := { row := wireDecodesRow, standIns := [], harness := (true, "d94cdd4198858b4533a5fe2188f14f25e4dbc0d1dfb792e8e66bd42c5535b2e5"), looks := true }, kinds := [], alts := [], laidByText := true, laidKinds := [.data], laidTests := true, laidLooks := .later }
def WireDecodesCardSaid : Prop := Claim7.holds Tryd.pinned (.plain (OpenSpec.ofChange wireDecodesSpec)) wireDecodesCard

/-- THE TIED CARD OF 'canopylaw.WireReads'. -/
def wireReadsCard : Claim7 := { stood := { row := wireReadsRow, standIns := [], harness := (true, "d94cdd4198858b4533a5fe2188f14f25e4dbc0d1dfb792e8e66bd42c5535b2e5"), looks := true }, kinds := [], alts := [], laidByText := true, laidKinds := [.data], laidTests := true, laidLooks := .later }
def WireReadsCardSaid : Prop := Claim7.holds Tryd.pinned (.plain (OpenSpec.ofChange wireReadsSpec)) wireReadsCard

/-- THE TIED CARD OF 'canopylaw.WireWrites'. -/
def wireWritesCard : Claim7 := { stood := { row := wireWritesRow, standIns := [], harness := (true, "d94cdd4198858b4533a5fe2188f14f25e4dbc0d1dfb792e8e66bd42c5535b2e5"), looks := true }, kinds := [], alts := [], laidByText := true, laidKinds := [.data], laidTests := true, laidLooks := .later }
def WireWritesCardSaid : Prop := Claim7.holds Tryd.pinned (.plain (OpenSpec.ofChange wireWritesSpec)) wireWritesCard

/-- THE TIED CARD OF 'canopylaw.DigestSums'. -/
def digestSumsCard : Claim7 := { stood := { row := digestSumsRow, standIns := [], harness := (true, "d94cdd4198858b4533a5fe2188f14f25e4dbc0d1dfb792e8e66bd42c5535b2e5"), looks := true }, kinds := [], alts := [], laidByText := true, laidKinds := [.data, .data, .data], laidTests := true, laidLooks := .later }
def DigestSumsCardSaid : Prop := Claim7.holds Tryd.pinned (.plain (OpenSpec.ofChange digestSumsSpec)) digestSumsCard

/-- THE TIED CARD OF 'canopylaw.DigestParts'. -/
def digestPartsCard : Claim7 := { stood := { row := digestPartsRow, standIns := [], harness := (true, "d94cdd4198858b4533a5fe2188f14f25e4dbc0d1dfb792e8e66bd42c5535b2e5"), looks := true }, kinds := [], alts := [], laidByText := true, laidKinds := [.data, .data, .data], laidTests := true, laidLooks := .later }
def DigestPartsCardSaid : Prop := Claim7.holds Tryd.pinned (.plain (OpenSpec.ofChange digestPartsSpec)) digestPartsCard

/-- THE TIED CARD OF 'canopylaw.TreeRoots'. -/
def treeRootsCard : Claim7 := { stood := { row := treeRootsRow, standIns := [], harness := (true, "d94cdd4198858b4533a5fe2188f14f25e4dbc0d1dfb792e8e66bd42c5535b2e5"), looks := true }, kinds := [], alts := [], laidByText := true, laidKinds := [.data, .data, .data], laidTests := true, laidLooks := .later }
def TreeRootsCardSaid : Prop := Claim7.holds Tryd.pinned (.plain (OpenSpec.ofChange treeRootsSpec)) treeRootsCard

/-- THE TIED CARD OF 'canopylaw.ForestRoots'. -/
def forestRootsCard : Claim7 := { stood := { row := forestRootsRow, standIns := [], harness := (true, "d94cdd4198858b4533a5fe2188f14f25e4dbc0d1dfb792e8e66bd42c5535b2e5"), looks := true }, kinds := [], alts := [], laidByText := true, laidKinds := [.data, .data, .data], laidTests := true, laidLooks := .later }
def ForestRootsCardSaid : Prop := Claim7.holds Tryd.pinned (.plain (OpenSpec.ofChange forestRootsSpec)) forestRootsCard

/-- THE TIED CARD OF 'canopylaw.ProofVerifies'. -/
def proofVerifiesCard : Claim7 := { stood := { row := proofVerifiesRow, standIns := [], harness := (true, "d94cdd4198858b4533a5fe2188f14f25e4dbc0d1dfb792e8e66bd42c5535b2e5"), looks := true }, kinds := [], alts := [], laidByText := true, laidKinds := [.data, .data, .data], laidTests := true, laidLooks := .later }
def ProofVerifiesCardSaid : Prop := Claim7.holds Tryd.pinned (.plain (OpenSpec.ofChange proofVerifiesSpec)) proofVerifiesCard

/-- THE TIED CARD OF 'canopylaw.ProofProves'. -/
def proofProvesCard : Claim7 := { stood := { row := proofProvesRow, standIns := [], harness := (true, "d94cdd4198858b4533a5fe2188f14f25e4dbc0d1dfb792e8e66bd42c5535b2e5"), looks := true }, kinds := [], alts := [], laidByText := true, laidKinds := [.data, .data, .data], laidTests := true, laidLooks := .later }
def ProofProvesCardSaid : Prop := Claim7.holds Tryd.pinned (.plain (OpenSpec.ofChange proofProvesSpec)) proofProvesCard

/-- THE TIED CARD OF 'canopylaw.ForestVerifies'. -/
def forestVerifiesCard : Claim7 := { stood := { row := forestVerifiesRow, standIns := [], harness := (true, "d94cdd4198858b4533a5fe2188f14f25e4dbc0d1dfb792e8e66bd42c5535b2e5"), looks := true }, kinds := [], alts := [], laidByText := true, laidKinds := [.data, .data, .data], laidTests := true, laidLooks := .later }
def ForestVerifiesCardSaid : Prop := Claim7.holds Tryd.pinned (.plain (OpenSpec.ofChange forestVerifiesSpec)) forestVerifiesCard

/-- THE TIED CARD OF 'canopylaw.ForestProves'. -/
def forestProvesCard : Claim7 := { stood := { row := forestProvesRow, standIns := [], harness := (true, "d94cdd4198858b4533a5fe2188f14f25e4dbc0d1dfb792e8e66bd42c5535b2e5"), looks := true }, kinds := [], alts := [], laidByText := true, laidKinds := [.data, .data, .data], laidTests := true, laidLooks := .later }
def ForestProvesCardSaid : Prop := Claim7.holds Tryd.pinned (.plain (OpenSpec.ofChange forestProvesSpec)) forestProvesCard

/-- THE TIED CARD OF 'canopylaw.TapeAppends'. -/
def tapeAppendsCard : Claim7 := { stood := { row := tapeAppendsRow, standIns := [], harness := (true, "d94cdd4198858b4533a5fe2188f14f25e4dbc0d1dfb792e8e66bd42c5535b2e5"), looks := true }, kinds := [], alts := [], laidByText := true, laidKinds := [.data, .data, .data], laidTests := true, laidLooks := .later }
def TapeAppendsCardSaid : Prop := Claim7.holds Tryd.pinned (.plain (OpenSpec.ofChange tapeAppendsSpec)) tapeAppendsCard

/-- THE TIED CARD OF 'canopylaw.TapeRecovers'. -/
def tapeRecoversCard : Claim7 := { stood := { row := tapeRecoversRow, standIns := [], harness := (true, "d94cdd4198858b4533a5fe2188f14f25e4dbc0d1dfb792e8e66bd42c5535b2e5"), looks := true }, kinds := [], alts := [], laidByText := true, laidKinds := [.data, .data, .data], laidTests := true, laidLooks := .later }
def TapeRecoversCardSaid : Prop := Claim7.holds Tryd.pinned (.plain (OpenSpec.ofChange tapeRecoversSpec)) tapeRecoversCard

/-- THE TIED CARD OF 'canopylaw.HistoryRoots'. -/
def historyRootsCard : Claim7 := { stood := { row := historyRootsRow, standIns := [], harness := (true, "d94cdd4198858b4533a5fe2188f14f25e4dbc0d1dfb792e8e66bd42c5535b2e5"), looks := true }, kinds := [], alts := [], laidByText := true, laidKinds := [.data, .data, .data], laidTests := true, laidLooks := .later }
def HistoryRootsCardSaid : Prop := Claim7.holds Tryd.pinned (.plain (OpenSpec.ofChange historyRootsSpec)) historyRootsCard

/-- THE TIED CARD OF 'canopylaw.LinesShows'. -/
def linesShowsCard : Claim7 := { stood := { row := linesShowsRow, standIns := [], harness := (true, "d94cdd4198858b4533a5fe2188f14f25e4dbc0d1dfb792e8e66bd42c5535b2e5"), looks := true }, kinds := [], alts := [], laidByText := true, laidKinds := [.data, .data, .data, .data], laidTests := true, laidLooks := .later }
def LinesShowsCardSaid : Prop := Claim7.holds Tryd.pinned (.plain (OpenSpec.ofChange linesShowsSpec)) linesShowsCard

/-- THE TIED CARD OF 'canopylaw.LinesReads'. -/
def linesReadsCard : Claim7 := { stood := { row := linesReadsRow, standIns := [], harness := (true, "d94cdd4198858b4533a5fe2188f14f25e4dbc0d1dfb792e8e66bd42c5535b2e5"), looks := true }, kinds := [], alts := [], laidByText := true, laidKinds := [.data, .data, .data, .data, .sentinel, .sentinel, .data, .pinned], laidTests := true, laidLooks := .later }
def LinesReadsCardSaid : Prop := Claim7.holds Tryd.pinned (.plain (OpenSpec.ofChange linesReadsSpec)) linesReadsCard

/-- THE SECOND FORM's CARD OF 'canopylaw.WireChecks'. -/
def wireChecksUptoCard : Claim7 := { stood := { row := wireChecksUptoRow, standIns := [], harness := (true, "d94cdd4198858b4533a5fe2188f14f25e4dbc0d1dfb792e8e66bd42c5535b2e5"), looks := true }, kinds := [], alts := [], laidByText := true, laidKinds := [.data], laidTests := true, laidLooks := .later }
def WireChecksUptoCardSaid : Prop := Claim7.holds Tryd.pinned (.plain (OpenSpec.upto wireChecksSpec)) wireChecksUptoCard

/-- THE SECOND FORM's CARD OF 'canopylaw.WireEncodes'. -/
def wireEncodesUptoCard : Claim7 := { stood := { row := wireEncodesUptoRow, standIns := [], harness := (true, "d94cdd4198858b4533a5fe2188f14f25e4dbc0d1dfb792e8e66bd42c5535b2e5"), looks := true }, kinds := [], alts := [], laidByText := true, laidKinds := [.data], laidTests := true, laidLooks := .later }
def WireEncodesUptoCardSaid : Prop := Claim7.holds Tryd.pinned (.plain (OpenSpec.upto wireEncodesSpec)) wireEncodesUptoCard

/-- THE SECOND FORM's CARD OF 'canopylaw.WireDecodes'. -/
def wireDecodesUptoCard : Claim7 := { stood := { row := wireDecodesUptoRow, standIns := [], harness := (true, "d94cdd4198858b4533a5fe2188f14f25e4dbc0d1dfb792e8e66bd42c5535b2e5"), looks := true }, kinds := [], alts := [], laidByText := true, laidKinds := [.data], laidTests := true, laidLooks := .later }
def WireDecodesUptoCardSaid : Prop := Claim7.holds Tryd.pinned (.plain (OpenSpec.upto wireDecodesSpec)) wireDecodesUptoCard

/-- THE SECOND FORM's CARD OF 'canopylaw.WireReads'. -/
def wireReadsUptoCard : Claim7 := { stood := { row := wireReadsUptoRow, standIns := [], harness := (true, "d94cdd4198858b4533a5fe2188f14f25e4dbc0d1dfb792e8e66bd42c5535b2e5"), looks := true }, kinds := [], alts := [], laidByText := true, laidKinds := [.data], laidTests := true, laidLooks := .later }
def WireReadsUptoCardSaid : Prop := Claim7.holds Tryd.pinned (.plain (OpenSpec.upto wireReadsSpec)) wireReadsUptoCard

/-- THE SECOND FORM's CARD OF 'canopylaw.WireWrites'. -/
def wireWritesUptoCard : Claim7 := { stood := { row := wireWritesUptoRow, standIns := [], harness := (true, "d94cdd4198858b4533a5fe2188f14f25e4dbc0d1dfb792e8e66bd42c5535b2e5"), looks := true }, kinds := [], alts := [], laidByText := true, laidKinds := [.data], laidTests := true, laidLooks := .later }
def WireWritesUptoCardSaid : Prop := Claim7.holds Tryd.pinned (.plain (OpenSpec.upto wireWritesSpec)) wireWritesUptoCard

/-- THE SECOND FORM's CARD OF 'canopylaw.DigestSums'. -/
def digestSumsUptoCard : Claim7 := { stood := { row := digestSumsUptoRow, standIns := [], harness := (true, "d94cdd4198858b4533a5fe2188f14f25e4dbc0d1dfb792e8e66bd42c5535b2e5"), looks := true }, kinds := [], alts := [], laidByText := true, laidKinds := [.data, .data, .data], laidTests := true, laidLooks := .later }
def DigestSumsUptoCardSaid : Prop := Claim7.holds Tryd.pinned (.plain (OpenSpec.upto digestSumsSpec)) digestSumsUptoCard

/-- THE SECOND FORM's CARD OF 'canopylaw.DigestParts'. -/
def digestPartsUptoCard : Claim7 := { stood := { row := digestPartsUptoRow, standIns := [], harness := (true, "d94cdd4198858b4533a5fe2188f14f25e4dbc0d1dfb792e8e66bd42c5535b2e5"), looks := true }, kinds := [], alts := [], laidByText := true, laidKinds := [.data, .data, .data], laidTests := true, laidLooks := .later }
def DigestPartsUptoCardSaid : Prop := Claim7.holds Tryd.pinned (.plain (OpenSpec.upto digestPartsSpec)) digestPartsUptoCard

/-- THE SECOND FORM's CARD OF 'canopylaw.TreeRoots'. -/
def treeRootsUptoCard : Claim7 := { stood := { row := treeRootsUptoRow, standIns := [], harness := (true, "d94cdd4198858b4533a5fe2188f14f25e4dbc0d1dfb792e8e66bd42c5535b2e5"), looks := true }, kinds := [], alts := [], laidByText := true, laidKinds := [.data, .data, .data], laidTests := true, laidLooks := .later }
def TreeRootsUptoCardSaid : Prop := Claim7.holds Tryd.pinned (.plain (OpenSpec.upto treeRootsSpec)) treeRootsUptoCard

/-- THE SECOND FORM's CARD OF 'canopylaw.ForestRoots'. -/
def forestRootsUptoCard : Claim7 := { stood := { row := forestRootsUptoRow, standIns := [], harness := (true, "d94cdd4198858b4533a5fe2188f14f25e4dbc0d1dfb792e8e66bd42c5535b2e5"), looks := true }, kinds := [], alts := [], laidByText := true, laidKinds := [.data, .data, .data], laidTests := true, laidLooks := .later }
def ForestRootsUptoCardSaid : Prop := Claim7.holds Tryd.pinned (.plain (OpenSpec.upto forestRootsSpec)) forestRootsUptoCard

/-- THE SECOND FORM's CARD OF 'canopylaw.ProofVerifies'. -/
def proofVerifiesUptoCard : Claim7 := { stood := { row := proofVerifiesUptoRow, standIns := [], harness := (true, "d94cdd4198858b4533a5fe2188f14f25e4dbc0d1dfb792e8e66bd42c5535b2e5"), looks := true }, kinds := [], alts := [], laidByText := true, laidKinds := [.data, .data, .data], laidTests := true, laidLooks := .later }
def ProofVerifiesUptoCardSaid : Prop := Claim7.holds Tryd.pinned (.plain (OpenSpec.upto proofVerifiesSpec)) proofVerifiesUptoCard

/-- THE SECOND FORM's CARD OF 'canopylaw.ProofProves'. -/
def proofProvesUptoCard : Claim7 := { stood := { row := proofProvesUptoRow, standIns := [], harness := (true, "d94cdd4198858b4533a5fe2188f14f25e4dbc0d1dfb792e8e66bd42c5535b2e5"), looks := true }, kinds := [], alts := [], laidByText := true, laidKinds := [.data, .data, .data], laidTests := true, laidLooks := .later }
def ProofProvesUptoCardSaid : Prop := Claim7.holds Tryd.pinned (.plain (OpenSpec.upto proofProvesSpec)) proofProvesUptoCard

/-- THE SECOND FORM's CARD OF 'canopylaw.ForestVerifies'. -/
def forestVerifiesUptoCard : Claim7 := { stood := { row := forestVerifiesUptoRow, standIns := [], harness := (true, "d94cdd4198858b4533a5fe2188f14f25e4dbc0d1dfb792e8e66bd42c5535b2e5"), looks := true }, kinds := [], alts := [], laidByText := true, laidKinds := [.data, .data, .data], laidTests := true, laidLooks := .later }
def ForestVerifiesUptoCardSaid : Prop := Claim7.holds Tryd.pinned (.plain (OpenSpec.upto forestVerifiesSpec)) forestVerifiesUptoCard

/-- THE SECOND FORM's CARD OF 'canopylaw.ForestProves'. -/
def forestProvesUptoCard : Claim7 := { stood := { row := forestProvesUptoRow, standIns := [], harness := (true, "d94cdd4198858b4533a5fe2188f14f25e4dbc0d1dfb792e8e66bd42c5535b2e5"), looks := true }, kinds := [], alts := [], laidByText := true, laidKinds := [.data, .data, .data], laidTests := true, laidLooks := .later }
def ForestProvesUptoCardSaid : Prop := Claim7.holds Tryd.pinned (.plain (OpenSpec.upto forestProvesSpec)) forestProvesUptoCard

/-- THE SECOND FORM's CARD OF 'canopylaw.TapeAppends'. -/
def tapeAppendsUptoCard : Claim7 := { stood := { row := tapeAppendsUptoRow, standIns := [], harness := (true, "d94cdd4198858b4533a5fe2188f14f25e4dbc0d1dfb792e8e66bd42c5535b2e5"), looks := true }, kinds := [], alts := [], laidByText := true, laidKinds := [.data, .data, .data], laidTests := true, laidLooks := .later }
def TapeAppendsUptoCardSaid : Prop := Claim7.holds Tryd.pinned (.plain (OpenSpec.upto tapeAppendsSpec)) tapeAppendsUptoCard

/-- THE SECOND FORM's CARD OF 'canopylaw.TapeRecovers'. -/
def tapeRecoversUptoCard : Claim7 := { stood := { row := tapeRecoversUptoRow, standIns := [], harness := (true, "d94cdd4198858b4533a5fe2188f14f25e4dbc0d1dfb792e8e66bd42c5535b2e5"), looks := true }, kinds := [], alts := [], laidByText := true, laidKinds := [.data, .data, .data], laidTests := true, laidLooks := .later }
def TapeRecoversUptoCardSaid : Prop := Claim7.holds Tryd.pinned (.plain (OpenSpec.upto tapeRecoversSpec)) tapeRecoversUptoCard

/-- THE SECOND FORM's CARD OF 'canopylaw.HistoryRoots'. -/
def historyRootsUptoCard : Claim7 := { stood := { row := historyRootsUptoRow, standIns := [], harness := (true, "d94cdd4198858b4533a5fe2188f14f25e4dbc0d1dfb792e8e66bd42c5535b2e5"), looks := true }, kinds := [], alts := [], laidByText := true, laidKinds := [.data, .data, .data], laidTests := true, laidLooks := .later }
def HistoryRootsUptoCardSaid : Prop := Claim7.holds Tryd.pinned (.plain (OpenSpec.upto historyRootsSpec)) historyRootsUptoCard

/-- THE SECOND FORM's CARD OF 'canopylaw.LinesShows'. -/
def linesShowsUptoCard : Claim7 := { stood := { row := linesShowsUptoRow, standIns := [], harness := (true, "d94cdd4198858b4533a5fe2188f14f25e4dbc0d1dfb792e8e66bd42c5535b2e5"), looks := true }, kinds := [], alts := [], laidByText := true, laidKinds := [.data, .data, .data, .data], laidTests := true, laidLooks := .later }
def LinesShowsUptoCardSaid : Prop := Claim7.holds Tryd.pinned (.plain (OpenSpec.upto linesShowsSpec)) linesShowsUptoCard

/-- THE SECOND FORM's CARD OF 'canopylaw.LinesReads'. -/
def linesReadsUptoCard : Claim7 := { stood := { row := linesReadsUptoRow, standIns := [], harness := (true, "d94cdd4198858b4533a5fe2188f14f25e4dbc0d1dfb792e8e66bd42c5535b2e5"), looks := true }, kinds := [], alts := [], laidByText := true, laidKinds := [.data, .data, .data, .data, .sentinel, .sentinel, .data, .pinned], laidTests := true, laidLooks := .later }
def LinesReadsUptoCardSaid : Prop := Claim7.holds Tryd.pinned (.plain (OpenSpec.upto linesReadsSpec)) linesReadsUptoCard
end Rows
end Go.Proofs.YtddppmhpdgecgaaDoor
