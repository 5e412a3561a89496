/-
  DERIVED. GIVEN WITH THE SEED: THE CARDS: each row of YteacjkihjeiafaaDoorRows.lean that lists a variable, with what it lists TIED to the program's text (the seventh form; the later family's looks); each row that meets fmt, with fmt's text TOLD by the authors' own Lean function (tested against real Go, not proved from fmt's source: count such statements apart). THE CARD IS WHAT COUNTS. Prove the row's statement (the work); the ties are given (YteacjkihjeiafaaDoorTie.lean); close each card by the builder's one call (the guide's Derived/Test/ToyasCard.lean, 'card_holds'). Laid BY PROGRAM, IN A SANDBOX (cutbox-door.mjs). By AI agents, Wed Nov 11 2026. No macro, syntax, notation, axiom, sorry.
-/
import Derived.Test.YteacjkihjeiafaaDoorRows
import GoSem.ClaimSeven
namespace Go.Proofs.YteacjkihjeiafaaDoor
namespace Rows

/-- THE TIED CARD OF 'canopylaw.ForestVerifies'. -/
def forestVerifiesCard : Claim7 := { stood := { row := forestVerifiesRow, standIns := [], harness := (true, "f155268f7bddae1b371f7e2ccf780a66a8bc549773bc22aef52916e1c03ea242"), looks := false }, kinds := [], alts := [], laidByText := true, laidKinds := [.data, .data, .data], laidTests := true, laidLooks := .later }
def ForestVerifiesCardSaid : Prop := Claim7.holds Tryd.pinned (.plain (OpenSpec.ofChange forestVerifiesSpec)) forestVerifiesCard

/-- THE TIED CARD OF 'canopylaw.ForestProves'. -/
def forestProvesCard : Claim7 := { stood := { row := forestProvesRow, standIns := [], harness := (true, "f155268f7bddae1b371f7e2ccf780a66a8bc549773bc22aef52916e1c03ea242"), looks := false }, kinds := [], alts := [], laidByText := true, laidKinds := [.data, .data, .data], laidTests := true, laidLooks := .later }
def ForestProvesCardSaid : Prop := Claim7.holds Tryd.pinned (.plain (OpenSpec.ofChange forestProvesSpec)) forestProvesCard

/-- THE TIED CARD OF 'canopylaw.TapeAppends'. -/
def tapeAppendsCard : Claim7 := { stood := { row := tapeAppendsRow, standIns := [], harness := (true, "f155268f7bddae1b371f7e2ccf780a66a8bc549773bc22aef52916e1c03ea242"), looks := false }, kinds := [], alts := [], laidByText := true, laidKinds := [.data, .data, .data], laidTests := true, laidLooks := .later }
def TapeAppendsCardSaid : Prop := Claim7.holds Tryd.pinned (.plain (OpenSpec.ofChange tapeAppendsSpec)) tapeAppendsCard

/-- THE TIED CARD OF 'canopylaw.TapeRecovers'. -/
def tapeRecoversCard : Claim7 := { stood := { row := tapeRecoversRow, standIns := [], harness := (true, "f155268f7bddae1b371f7e2ccf780a66a8bc549773bc22aef52916e1c03ea242"), looks := false }, kinds := [], alts := [], laidByText := true, laidKinds := [.data, .data, .data], laidTests := true, laidLooks := .later }
def TapeRecoversCardSaid : Prop := Claim7.holds Tryd.pinned (.plain (OpenSpec.ofChange tapeRecoversSpec)) tapeRecoversCard

/-- THE TIED CARD OF 'canopylaw.HistoryRoots'. -/
def historyRootsCard : Claim7 := { stood := { row := historyRootsRow, standIns := [], harness := (true, "f155268f7bddae1b371f7e2ccf780a66a8bc549773bc22aef52916e1c03ea242"), looks := false }, kinds := [], alts := [], laidByText := true, laidKinds := [.data, .data, .data], laidTests := true, laidLooks := .later }
def HistoryRootsCardSaid : Prop := Claim7.holds Tryd.pinned (.plain (OpenSpec.ofChange historyRootsSpec)) historyRootsCard

/-- THE SECOND FORM's CARD OF 'canopylaw.ForestVerifies'. -/
def forestVerifiesUptoCard : Claim7 := { stood := { row := forestVerifiesUptoRow, standIns := [], harness := (true, "f155268f7bddae1b371f7e2ccf780a66a8bc549773bc22aef52916e1c03ea242"), looks := false }, kinds := [], alts := [], laidByText := true, laidKinds := [.data, .data, .data], laidTests := true, laidLooks := .later }
def ForestVerifiesUptoCardSaid : Prop := Claim7.holds Tryd.pinned (.plain (OpenSpec.upto forestVerifiesSpec)) forestVerifiesUptoCard

/-- THE SECOND FORM's CARD OF 'canopylaw.ForestProves'. -/
def forestProvesUptoCard : Claim7 := { stood := { row := forestProvesUptoRow, standIns := [], harness := (true, "f155268f7bddae1b371f7e2ccf780a66a8bc549773bc22aef52916e1c03ea242"), looks := false }, kinds := [], alts := [], laidByText := true, laidKinds := [.data, .data, .data], laidTests := true, laidLooks := .later }
def ForestProvesUptoCardSaid : Prop := Claim7.holds Tryd.pinned (.plain (OpenSpec.upto forestProvesSpec)) forestProvesUptoCard

/-- THE SECOND FORM's CARD OF 'canopylaw.TapeAppends'. -/
def tapeAppendsUptoCard : Claim7 := { stood := { row := tapeAppendsUptoRow, standIns := [], harness := (true, "f155268f7bddae1b371f7e2ccf780a66a8bc549773bc22aef52916e1c03ea242"), looks := false }, kinds := [], alts := [], laidByText := true, laidKinds := [.data, .data, .data], laidTests := true, laidLooks := .later }
def TapeAppendsUptoCardSaid : Prop := Claim7.holds Tryd.pinned (.plain (OpenSpec.upto tapeAppendsSpec)) tapeAppendsUptoCard

/-- THE SECOND FORM's CARD OF 'canopylaw.TapeRecovers'. -/
def tapeRecoversUptoCard : Claim7 := { stood := { row := tapeRecoversUptoRow, standIns := [], harness := (true, "f155268f7bddae1b371f7e2ccf780a66a8bc549773bc22aef52916e1c03ea242"), looks := false }, kinds := [], alts := [], laidByText := true, laidKinds := [.data, .data, .data], laidTests := true, laidLooks := .later }
def TapeRecoversUptoCardSaid : Prop := Claim7.holds Tryd.pinned (.plain (OpenSpec.upto tapeRecoversSpec)) tapeRecoversUptoCard

/-- THE SECOND FORM's CARD OF 'canopylaw.HistoryRoots'. -/
def historyRootsUptoCard : Claim7 := { stood := { row := historyRootsUptoRow, standIns := [], harness := (true, "f155268f7bddae1b371f7e2ccf780a66a8bc549773bc22aef52916e1c03ea242"), looks := false }, kinds := [], alts := [], laidByText := true, laidKinds := [.data, .data, .data], laidTests := true, laidLooks := .later }
def HistoryRootsUptoCardSaid : Prop := Claim7.holds Tryd.pinned (.plain (OpenSpec.upto historyRootsSpec)) historyRootsUptoCard
end Rows
end Go.Proofs.YteacjkihjeiafaaDoor
