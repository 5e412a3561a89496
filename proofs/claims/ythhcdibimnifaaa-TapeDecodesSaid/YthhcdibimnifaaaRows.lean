/-
  No cell of these rows narrows 'for every input' (looked for: loops, veiled, ifaces, maps, wideKeys, modest, calm, conditions, laid).
  DERIVED. THE GIVEN ROWS OF THIS SEAT. 20 by the template 'for every input the law returns true; each argument reads behind the call as it read before'; 0 by the template 'total and deterministic' (their statements: YthhcdibimnifaaaTotals.lean).
  GIVEN WITH THE SEED: the statements are not yours to turn. If you find one false, say at which input.
  Laid BY PROGRAM, IN A SANDBOX (cutbox-rows.mjs): the forced cells as the released guide's own fill.sh prints them over the translation 0b91d0c3edc699e1… (all of the seat's roots in one cut). By AI agents, Wed Nov 11 2026. No macro, syntax, notation, axiom, sorry.
-/
import Derived.Test.YthhcdibimnifaaaChecked
import GoSem.Claim
import GoSem.ClaimJoined
import GoSem.ClaimMapViews
import Derived.JoinedTies
import Derived.KernelRfl
namespace Go.Proofs.Ythhcdibimnifaaa
/- THE CELL 'sum', in the pinned program and in every row, IS THE sha256 OF THE DUMP (.gsa) THAT YthhcdibimnifaaaProg.lean LOADS. Nothing in Lean hashes anything: it is a label: what it is worth is what the hold of that sum in a sandbox is worth. -/
noncomputable def Try.pinned : Pinned := { name := "ythhcdibimnifaaa", sum := "0b91d0c3edc699e15ec218275cb333cdda39a57f7f9e9f57470a216b1a92cda3", checked := Try.checked }
namespace Rows
def none {H : Type} : Left H := { results := [], args := [] }

/-- 'canopylaw.TreeGets': WHATEVER THE INPUT: true; the input reads as it did. -/
def treeGetsSpec : ChangeSpec := { name := "treeGets", fn := fun _ => fun
  | [d1, d2] => { results := [.lit (.bool true)], args := [d1, d2] }
  | _ => none }
def treeGetsRow : OpenClaim := { program := "ythhcdibimnifaaa", sum := "0b91d0c3edc699e15ec218275cb333cdda39a57f7f9e9f57470a216b1a92cda3", func := "canopy/canopylaw.TreeGets", spec := "treeGets", inPlace := ["internal/bytealg.Compare"], unfollowed := true, recurses := true, apart := false }
def TreeGetsSaid : Prop := treeGetsRow.holds Try.pinned (OpenSpec.ofChange treeGetsSpec)

/-- ITS FALSE NEIGHBOUR: 'it returns false'. Refute it at one input. -/
def treeGetsWrong : ChangeSpec := { name := "treeGets", fn := fun _ => fun
  | [d1, d2] => { results := [.lit (.bool false)], args := [d1, d2] }
  | _ => none }
def TreeGetsWrongFalsely : Prop := treeGetsRow.holds Try.pinned (OpenSpec.ofChange treeGetsWrong)

/-- 'canopylaw.TreeRanges': WHATEVER THE INPUT: true; the input reads as it did. -/
def treeRangesSpec : ChangeSpec := { name := "treeRanges", fn := fun _ => fun
  | [d1, d2, d3] => { results := [.lit (.bool true)], args := [d1, d2, d3] }
  | _ => none }
def treeRangesRow : OpenClaim := { program := "ythhcdibimnifaaa", sum := "0b91d0c3edc699e15ec218275cb333cdda39a57f7f9e9f57470a216b1a92cda3", func := "canopy/canopylaw.TreeRanges", spec := "treeRanges", inPlace := ["internal/bytealg.Compare"], unfollowed := true, recurses := true, apart := false }
def TreeRangesSaid : Prop := treeRangesRow.holds Try.pinned (OpenSpec.ofChange treeRangesSpec)

/-- ITS FALSE NEIGHBOUR: 'it returns false'. Refute it at one input. -/
def treeRangesWrong : ChangeSpec := { name := "treeRanges", fn := fun _ => fun
  | [d1, d2, d3] => { results := [.lit (.bool false)], args := [d1, d2, d3] }
  | _ => none }
def TreeRangesWrongFalsely : Prop := treeRangesRow.holds Try.pinned (OpenSpec.ofChange treeRangesWrong)

/-- 'canopylaw.TreeDeletes': WHATEVER THE INPUT: true; the input reads as it did. -/
def treeDeletesSpec : ChangeSpec := { name := "treeDeletes", fn := fun _ => fun
  | [d1, d2] => { results := [.lit (.bool true)], args := [d1, d2] }
  | _ => none }
def treeDeletesRow : OpenClaim := { program := "ythhcdibimnifaaa", sum := "0b91d0c3edc699e15ec218275cb333cdda39a57f7f9e9f57470a216b1a92cda3", func := "canopy/canopylaw.TreeDeletes", spec := "treeDeletes", inPlace := ["internal/bytealg.Compare"], unfollowed := true, recurses := true, apart := false }
def TreeDeletesSaid : Prop := treeDeletesRow.holds Try.pinned (OpenSpec.ofChange treeDeletesSpec)

/-- ITS FALSE NEIGHBOUR: 'it returns false'. Refute it at one input. -/
def treeDeletesWrong : ChangeSpec := { name := "treeDeletes", fn := fun _ => fun
  | [d1, d2] => { results := [.lit (.bool false)], args := [d1, d2] }
  | _ => none }
def TreeDeletesWrongFalsely : Prop := treeDeletesRow.holds Try.pinned (OpenSpec.ofChange treeDeletesWrong)

/-- 'canopylaw.TreePuts': WHATEVER THE INPUT: true; the input reads as it did. -/
def treePutsSpec : ChangeSpec := { name := "treePuts", fn := fun _ => fun
  | [d1, d2] => { results := [.lit (.bool true)], args := [d1, d2] }
  | _ => none }
def treePutsRow : OpenClaim := { program := "ythhcdibimnifaaa", sum := "0b91d0c3edc699e15ec218275cb333cdda39a57f7f9e9f57470a216b1a92cda3", func := "canopy/canopylaw.TreePuts", spec := "treePuts", inPlace := ["internal/bytealg.Compare", "slices.overlaps[canopy/api.Pair]"], unfollowed := true, recurses := true, apart := false }
def TreePutsSaid : Prop := treePutsRow.holds Try.pinned (OpenSpec.ofChange treePutsSpec)

/-- ITS FALSE NEIGHBOUR: 'it returns false'. Refute it at one input. -/
def treePutsWrong : ChangeSpec := { name := "treePuts", fn := fun _ => fun
  | [d1, d2] => { results := [.lit (.bool false)], args := [d1, d2] }
  | _ => none }
def TreePutsWrongFalsely : Prop := treePutsRow.holds Try.pinned (OpenSpec.ofChange treePutsWrong)

/-- 'canopylaw.ForestChecks': WHATEVER THE INPUT: true; the input reads as it did. -/
def forestChecksSpec : ChangeSpec := { name := "forestChecks", fn := fun _ => fun
  | [d] => { results := [.lit (.bool true)], args := [d] }
  | _ => none }
def forestChecksRow : OpenClaim := { program := "ythhcdibimnifaaa", sum := "0b91d0c3edc699e15ec218275cb333cdda39a57f7f9e9f57470a216b1a92cda3", func := "canopy/canopylaw.ForestChecks", spec := "forestChecks", inPlace := ["internal/bytealg.Compare"], apart := false }
def ForestChecksSaid : Prop := forestChecksRow.holds Try.pinned (OpenSpec.ofChange forestChecksSpec)

/-- ITS FALSE NEIGHBOUR: 'it returns false'. Refute it at one input. -/
def forestChecksWrong : ChangeSpec := { name := "forestChecks", fn := fun _ => fun
  | [d] => { results := [.lit (.bool false)], args := [d] }
  | _ => none }
def ForestChecksWrongFalsely : Prop := forestChecksRow.holds Try.pinned (OpenSpec.ofChange forestChecksWrong)

/-- 'canopylaw.ForestGets': WHATEVER THE INPUT: true; the input reads as it did. -/
def forestGetsSpec : ChangeSpec := { name := "forestGets", fn := fun _ => fun
  | [d1, d2, d3] => { results := [.lit (.bool true)], args := [d1, d2, d3] }
  | _ => none }
def forestGetsRow : OpenClaim := { program := "ythhcdibimnifaaa", sum := "0b91d0c3edc699e15ec218275cb333cdda39a57f7f9e9f57470a216b1a92cda3", func := "canopy/canopylaw.ForestGets", spec := "forestGets", inPlace := ["internal/bytealg.Compare"], unfollowed := true, recurses := true, apart := false }
def ForestGetsSaid : Prop := forestGetsRow.holds Try.pinned (OpenSpec.ofChange forestGetsSpec)

/-- ITS FALSE NEIGHBOUR: 'it returns false'. Refute it at one input. -/
def forestGetsWrong : ChangeSpec := { name := "forestGets", fn := fun _ => fun
  | [d1, d2, d3] => { results := [.lit (.bool false)], args := [d1, d2, d3] }
  | _ => none }
def ForestGetsWrongFalsely : Prop := forestGetsRow.holds Try.pinned (OpenSpec.ofChange forestGetsWrong)

/-- 'canopylaw.ForestRanges': WHATEVER THE INPUT: true; the input reads as it did. -/
def forestRangesSpec : ChangeSpec := { name := "forestRanges", fn := fun _ => fun
  | [d1, d2, d3, d4] => { results := [.lit (.bool true)], args := [d1, d2, d3, d4] }
  | _ => none }
def forestRangesRow : OpenClaim := { program := "ythhcdibimnifaaa", sum := "0b91d0c3edc699e15ec218275cb333cdda39a57f7f9e9f57470a216b1a92cda3", func := "canopy/canopylaw.ForestRanges", spec := "forestRanges", inPlace := ["internal/bytealg.Compare"], unfollowed := true, recurses := true, apart := false }
def ForestRangesSaid : Prop := forestRangesRow.holds Try.pinned (OpenSpec.ofChange forestRangesSpec)

/-- ITS FALSE NEIGHBOUR: 'it returns false'. Refute it at one input. -/
def forestRangesWrong : ChangeSpec := { name := "forestRanges", fn := fun _ => fun
  | [d1, d2, d3, d4] => { results := [.lit (.bool false)], args := [d1, d2, d3, d4] }
  | _ => none }
def ForestRangesWrongFalsely : Prop := forestRangesRow.holds Try.pinned (OpenSpec.ofChange forestRangesWrong)

/-- 'canopylaw.ForestApplies': WHATEVER THE INPUT: true; the input reads as it did. -/
def forestAppliesSpec : ChangeSpec := { name := "forestApplies", fn := fun _ => fun
  | [d1, d2] => { results := [.lit (.bool true)], args := [d1, d2] }
  | _ => none }
def forestAppliesRow : OpenClaim := { program := "ythhcdibimnifaaa", sum := "0b91d0c3edc699e15ec218275cb333cdda39a57f7f9e9f57470a216b1a92cda3", func := "canopy/canopylaw.ForestApplies", spec := "forestApplies", inPlace := ["internal/bytealg.Compare", "slices.overlaps[canopy/api.Pair]", "slices.overlaps[canopy/api.Tenant]"], unfollowed := true, recurses := true, apart := false }
def ForestAppliesSaid : Prop := forestAppliesRow.holds Try.pinned (OpenSpec.ofChange forestAppliesSpec)

/-- ITS FALSE NEIGHBOUR: 'it returns false'. Refute it at one input. -/
def forestAppliesWrong : ChangeSpec := { name := "forestApplies", fn := fun _ => fun
  | [d1, d2] => { results := [.lit (.bool false)], args := [d1, d2] }
  | _ => none }
def ForestAppliesWrongFalsely : Prop := forestAppliesRow.holds Try.pinned (OpenSpec.ofChange forestAppliesWrong)

/-- 'canopylaw.TapeChecks': WHATEVER THE INPUT: true; the input reads as it did. -/
def tapeChecksSpec : ChangeSpec := { name := "tapeChecks", fn := fun _ => fun
  | [d] => { results := [.lit (.bool true)], args := [d] }
  | _ => none }
def tapeChecksRow : OpenClaim := { program := "ythhcdibimnifaaa", sum := "0b91d0c3edc699e15ec218275cb333cdda39a57f7f9e9f57470a216b1a92cda3", func := "canopy/canopylaw.TapeChecks", spec := "tapeChecks", inPlace := ["internal/bytealg.Compare", "slices.overlaps[canopy/api.Pair]", "slices.overlaps[canopy/api.Tenant]"], unfollowed := true, recurses := true, apart := false }
def TapeChecksSaid : Prop := tapeChecksRow.holds Try.pinned (OpenSpec.ofChange tapeChecksSpec)

/-- ITS FALSE NEIGHBOUR: 'it returns false'. Refute it at one input. -/
def tapeChecksWrong : ChangeSpec := { name := "tapeChecks", fn := fun _ => fun
  | [d] => { results := [.lit (.bool false)], args := [d] }
  | _ => none }
def TapeChecksWrongFalsely : Prop := tapeChecksRow.holds Try.pinned (OpenSpec.ofChange tapeChecksWrong)

/-- 'canopylaw.TapeEncodes': WHATEVER THE INPUT: true; the input reads as it did. -/
def tapeEncodesSpec : ChangeSpec := { name := "tapeEncodes", fn := fun _ => fun
  | [d] => { results := [.lit (.bool true)], args := [d] }
  | _ => none }
def tapeEncodesRow : OpenClaim := { program := "ythhcdibimnifaaa", sum := "0b91d0c3edc699e15ec218275cb333cdda39a57f7f9e9f57470a216b1a92cda3", func := "canopy/canopylaw.TapeEncodes", spec := "tapeEncodes", inPlace := ["internal/bytealg.Compare", "slices.overlaps[canopy/api.Pair]", "slices.overlaps[canopy/api.Tenant]"], unfollowed := true, recurses := true, apart := false }
def TapeEncodesSaid : Prop := tapeEncodesRow.holds Try.pinned (OpenSpec.ofChange tapeEncodesSpec)

/-- ITS FALSE NEIGHBOUR: 'it returns false'. Refute it at one input. -/
def tapeEncodesWrong : ChangeSpec := { name := "tapeEncodes", fn := fun _ => fun
  | [d] => { results := [.lit (.bool false)], args := [d] }
  | _ => none }
def TapeEncodesWrongFalsely : Prop := tapeEncodesRow.holds Try.pinned (OpenSpec.ofChange tapeEncodesWrong)

/-- 'canopylaw.TapeDecodes': WHATEVER THE INPUT: true; the input reads as it did. -/
def tapeDecodesSpec : ChangeSpec := { name := "tapeDecodes", fn := fun _ => fun
  | [d] => { results := [.lit (.bool true)], args := [d] }
  | _ => none }
def tapeDecodesRow : OpenClaim := { program := "ythhcdibimnifaaa", sum := "0b91d0c3edc699e15ec218275cb333cdda39a57f7f9e9f57470a216b1a92cda3", func := "canopy/canopylaw.TapeDecodes", spec := "tapeDecodes", inPlace := ["internal/bytealg.Compare", "slices.overlaps[canopy/api.Pair]", "slices.overlaps[canopy/api.Tenant]"], unfollowed := true, recurses := true, apart := false }
def TapeDecodesSaid : Prop := tapeDecodesRow.holds Try.pinned (OpenSpec.ofChange tapeDecodesSpec)

/-- ITS FALSE NEIGHBOUR: 'it returns false'. Refute it at one input. -/
def tapeDecodesWrong : ChangeSpec := { name := "tapeDecodes", fn := fun _ => fun
  | [d] => { results := [.lit (.bool false)], args := [d] }
  | _ => none }
def TapeDecodesWrongFalsely : Prop := tapeDecodesRow.holds Try.pinned (OpenSpec.ofChange tapeDecodesWrong)

/-- 'canopylaw.HistoryChecks': WHATEVER THE INPUT: true; the input reads as it did. -/
def historyChecksSpec : ChangeSpec := { name := "historyChecks", fn := fun _ => fun
  | [d] => { results := [.lit (.bool true)], args := [d] }
  | _ => none }
def historyChecksRow : OpenClaim := { program := "ythhcdibimnifaaa", sum := "0b91d0c3edc699e15ec218275cb333cdda39a57f7f9e9f57470a216b1a92cda3", func := "canopy/canopylaw.HistoryChecks", spec := "historyChecks", inPlace := ["internal/bytealg.Compare", "slices.overlaps[canopy/api.Pair]", "slices.overlaps[canopy/api.Tenant]"], unfollowed := true, recurses := true, apart := false }
def HistoryChecksSaid : Prop := historyChecksRow.holds Try.pinned (OpenSpec.ofChange historyChecksSpec)

/-- ITS FALSE NEIGHBOUR: 'it returns false'. Refute it at one input. -/
def historyChecksWrong : ChangeSpec := { name := "historyChecks", fn := fun _ => fun
  | [d] => { results := [.lit (.bool false)], args := [d] }
  | _ => none }
def HistoryChecksWrongFalsely : Prop := historyChecksRow.holds Try.pinned (OpenSpec.ofChange historyChecksWrong)

/-- 'canopylaw.HistoryFolds': WHATEVER THE INPUT: true; the input reads as it did. -/
def historyFoldsSpec : ChangeSpec := { name := "historyFolds", fn := fun _ => fun
  | [d1, d2] => { results := [.lit (.bool true)], args := [d1, d2] }
  | _ => none }
def historyFoldsRow : OpenClaim := { program := "ythhcdibimnifaaa", sum := "0b91d0c3edc699e15ec218275cb333cdda39a57f7f9e9f57470a216b1a92cda3", func := "canopy/canopylaw.HistoryFolds", spec := "historyFolds", inPlace := ["internal/bytealg.Compare", "slices.overlaps[canopy/api.Pair]", "slices.overlaps[canopy/api.Tenant]"], unfollowed := true, recurses := true, apart := false }
def HistoryFoldsSaid : Prop := historyFoldsRow.holds Try.pinned (OpenSpec.ofChange historyFoldsSpec)

/-- ITS FALSE NEIGHBOUR: 'it returns false'. Refute it at one input. -/
def historyFoldsWrong : ChangeSpec := { name := "historyFolds", fn := fun _ => fun
  | [d1, d2] => { results := [.lit (.bool false)], args := [d1, d2] }
  | _ => none }
def HistoryFoldsWrongFalsely : Prop := historyFoldsRow.holds Try.pinned (OpenSpec.ofChange historyFoldsWrong)

/-- 'canopylaw.TxnChecks': WHATEVER THE INPUT: true; the input reads as it did. -/
def txnChecksSpec : ChangeSpec := { name := "txnChecks", fn := fun _ => fun
  | [d] => { results := [.lit (.bool true)], args := [d] }
  | _ => none }
def txnChecksRow : OpenClaim := { program := "ythhcdibimnifaaa", sum := "0b91d0c3edc699e15ec218275cb333cdda39a57f7f9e9f57470a216b1a92cda3", func := "canopy/canopylaw.TxnChecks", spec := "txnChecks", inPlace := ["internal/bytealg.Compare", "slices.overlaps[canopy/api.Pair]", "slices.overlaps[canopy/api.Tenant]"], unfollowed := true, recurses := true, apart := false }
def TxnChecksSaid : Prop := txnChecksRow.holds Try.pinned (OpenSpec.ofChange txnChecksSpec)

/-- ITS FALSE NEIGHBOUR: 'it returns false'. Refute it at one input. -/
def txnChecksWrong : ChangeSpec := { name := "txnChecks", fn := fun _ => fun
  | [d] => { results := [.lit (.bool false)], args := [d] }
  | _ => none }
def TxnChecksWrongFalsely : Prop := txnChecksRow.holds Try.pinned (OpenSpec.ofChange txnChecksWrong)

/-- 'canopylaw.TxnClashes': WHATEVER THE INPUT: true; the input reads as it did. -/
def txnClashesSpec : ChangeSpec := { name := "txnClashes", fn := fun _ => fun
  | [d1, d2] => { results := [.lit (.bool true)], args := [d1, d2] }
  | _ => none }
def txnClashesRow : OpenClaim := { program := "ythhcdibimnifaaa", sum := "0b91d0c3edc699e15ec218275cb333cdda39a57f7f9e9f57470a216b1a92cda3", func := "canopy/canopylaw.TxnClashes", spec := "txnClashes", inPlace := ["internal/bytealg.Compare", "slices.overlaps[canopy/api.Pair]", "slices.overlaps[canopy/api.Tenant]"], unfollowed := true, recurses := true, apart := false }
def TxnClashesSaid : Prop := txnClashesRow.holds Try.pinned (OpenSpec.ofChange txnClashesSpec)

/-- ITS FALSE NEIGHBOUR: 'it returns false'. Refute it at one input. -/
def txnClashesWrong : ChangeSpec := { name := "txnClashes", fn := fun _ => fun
  | [d1, d2] => { results := [.lit (.bool false)], args := [d1, d2] }
  | _ => none }
def TxnClashesWrongFalsely : Prop := txnClashesRow.holds Try.pinned (OpenSpec.ofChange txnClashesWrong)

/-- 'canopylaw.TxnNotes': WHATEVER THE INPUT: true; the input reads as it did. -/
def txnNotesSpec : ChangeSpec := { name := "txnNotes", fn := fun _ => fun
  | [d1, d2] => { results := [.lit (.bool true)], args := [d1, d2] }
  | _ => none }
def txnNotesRow : OpenClaim := { program := "ythhcdibimnifaaa", sum := "0b91d0c3edc699e15ec218275cb333cdda39a57f7f9e9f57470a216b1a92cda3", func := "canopy/canopylaw.TxnNotes", spec := "txnNotes", inPlace := ["internal/bytealg.Compare", "slices.overlaps[canopy/api.Pair]", "slices.overlaps[canopy/api.Tenant]"], unfollowed := true, recurses := true, apart := false }
def TxnNotesSaid : Prop := txnNotesRow.holds Try.pinned (OpenSpec.ofChange txnNotesSpec)

/-- ITS FALSE NEIGHBOUR: 'it returns false'. Refute it at one input. -/
def txnNotesWrong : ChangeSpec := { name := "txnNotes", fn := fun _ => fun
  | [d1, d2] => { results := [.lit (.bool false)], args := [d1, d2] }
  | _ => none }
def TxnNotesWrongFalsely : Prop := txnNotesRow.holds Try.pinned (OpenSpec.ofChange txnNotesWrong)

/-- 'canopylaw.TxnWrites': WHATEVER THE INPUT: true; the input reads as it did. -/
def txnWritesSpec : ChangeSpec := { name := "txnWrites", fn := fun _ => fun
  | [d1, d2] => { results := [.lit (.bool true)], args := [d1, d2] }
  | _ => none }
def txnWritesRow : OpenClaim := { program := "ythhcdibimnifaaa", sum := "0b91d0c3edc699e15ec218275cb333cdda39a57f7f9e9f57470a216b1a92cda3", func := "canopy/canopylaw.TxnWrites", spec := "txnWrites", inPlace := ["internal/bytealg.Compare", "slices.overlaps[canopy/api.Pair]", "slices.overlaps[canopy/api.Tenant]"], unfollowed := true, recurses := true, apart := false }
def TxnWritesSaid : Prop := txnWritesRow.holds Try.pinned (OpenSpec.ofChange txnWritesSpec)

/-- ITS FALSE NEIGHBOUR: 'it returns false'. Refute it at one input. -/
def txnWritesWrong : ChangeSpec := { name := "txnWrites", fn := fun _ => fun
  | [d1, d2] => { results := [.lit (.bool false)], args := [d1, d2] }
  | _ => none }
def TxnWritesWrongFalsely : Prop := txnWritesRow.holds Try.pinned (OpenSpec.ofChange txnWritesWrong)

/-- 'canopylaw.TxnLooks': WHATEVER THE INPUT: true; the input reads as it did. -/
def txnLooksSpec : ChangeSpec := { name := "txnLooks", fn := fun _ => fun
  | [d1, d2, d3, d4] => { results := [.lit (.bool true)], args := [d1, d2, d3, d4] }
  | _ => none }
def txnLooksRow : OpenClaim := { program := "ythhcdibimnifaaa", sum := "0b91d0c3edc699e15ec218275cb333cdda39a57f7f9e9f57470a216b1a92cda3", func := "canopy/canopylaw.TxnLooks", spec := "txnLooks", inPlace := ["internal/bytealg.Compare", "slices.overlaps[canopy/api.Pair]", "slices.overlaps[canopy/api.Tenant]"], unfollowed := true, recurses := true, apart := false }
def TxnLooksSaid : Prop := txnLooksRow.holds Try.pinned (OpenSpec.ofChange txnLooksSpec)

/-- ITS FALSE NEIGHBOUR: 'it returns false'. Refute it at one input. -/
def txnLooksWrong : ChangeSpec := { name := "txnLooks", fn := fun _ => fun
  | [d1, d2, d3, d4] => { results := [.lit (.bool false)], args := [d1, d2, d3, d4] }
  | _ => none }
def TxnLooksWrongFalsely : Prop := txnLooksRow.holds Try.pinned (OpenSpec.ofChange txnLooksWrong)

/-- 'canopylaw.TxnScans': WHATEVER THE INPUT: true; the input reads as it did. -/
def txnScansSpec : ChangeSpec := { name := "txnScans", fn := fun _ => fun
  | [d1, d2, d3, d4, d5] => { results := [.lit (.bool true)], args := [d1, d2, d3, d4, d5] }
  | _ => none }
def txnScansRow : OpenClaim := { program := "ythhcdibimnifaaa", sum := "0b91d0c3edc699e15ec218275cb333cdda39a57f7f9e9f57470a216b1a92cda3", func := "canopy/canopylaw.TxnScans", spec := "txnScans", inPlace := ["internal/bytealg.Compare", "slices.overlaps[canopy/api.Pair]", "slices.overlaps[canopy/api.Tenant]"], unfollowed := true, recurses := true, apart := false }
def TxnScansSaid : Prop := txnScansRow.holds Try.pinned (OpenSpec.ofChange txnScansSpec)

/-- ITS FALSE NEIGHBOUR: 'it returns false'. Refute it at one input. -/
def txnScansWrong : ChangeSpec := { name := "txnScans", fn := fun _ => fun
  | [d1, d2, d3, d4, d5] => { results := [.lit (.bool false)], args := [d1, d2, d3, d4, d5] }
  | _ => none }
def TxnScansWrongFalsely : Prop := txnScansRow.holds Try.pinned (OpenSpec.ofChange txnScansWrong)

/-- 'canopylaw.ProofChecks': WHATEVER THE INPUT: true; the input reads as it did. -/
def proofChecksSpec : ChangeSpec := { name := "proofChecks", fn := fun _ => fun
  | [d1, d2] => { results := [.lit (.bool true)], args := [d1, d2] }
  | _ => none }
def proofChecksRow : OpenClaim := { program := "ythhcdibimnifaaa", sum := "0b91d0c3edc699e15ec218275cb333cdda39a57f7f9e9f57470a216b1a92cda3", func := "canopy/canopylaw.ProofChecks", spec := "proofChecks", inPlace := ["internal/bytealg.Compare"], apart := false }
def ProofChecksSaid : Prop := proofChecksRow.holds Try.pinned (OpenSpec.ofChange proofChecksSpec)

/-- ITS FALSE NEIGHBOUR: 'it returns false'. Refute it at one input. -/
def proofChecksWrong : ChangeSpec := { name := "proofChecks", fn := fun _ => fun
  | [d1, d2] => { results := [.lit (.bool false)], args := [d1, d2] }
  | _ => none }
def ProofChecksWrongFalsely : Prop := proofChecksRow.holds Try.pinned (OpenSpec.ofChange proofChecksWrong)

/- THE SECOND FORM. 'bulk': how many values and letters a reading holds, each counted each time it is reached (what is shared counts as often as it is met; a slice's spare places count too). A statement '..UptoSaid' is the law's where the arguments, and the package variables that the reading takes, are together of bulk at most 1048576: NARROWER than '..Said'. Prove '..Said' where nothing that the law and all that it calls make is longer than what came in: it says more and counts as full. Else prove '..UptoSaid'. A law counts once. -/
mutual
def uptoBulk {H : Type} : DataW H → Nat
  | .lit (.string bytes) => bytes.length + 1
  | .lit _ => 1
  | .nil => 1
  | .ptr d => uptoBulk d + 1
  | .slice elems spare => uptoBulkAll elems + uptoBulkAll spare + 1
  | .agg parts => uptoBulkAll parts + 1
  | .iface _ d => uptoBulk d + 1
  | .map entries => uptoBulkEntries entries + 1
  | .held _ => 1
def uptoBulkAll {H : Type} : List (DataW H) → Nat
  | [] => 0
  | d :: r => uptoBulk d + uptoBulkAll r
def uptoBulkEntries {H : Type} : List (Lit × DataW H) → Nat
  | [] => 0
  | x :: r => uptoBulkEntry x + uptoBulkEntries r
def uptoBulkEntry {H : Type} : Lit × DataW H → Nat
  | (.string bytes, d) => bytes.length + uptoBulk d + 1
  | (_, d) => uptoBulk d + 1
 end
def uptoSmall : (H : Type) → List (DataW H) → Bool := fun _ ds => decide (uptoBulkAll ds ≤ 1048576)
def OpenSpec.upto (s : _root_.Go.ChangeSpec) : _root_.Go.OpenSpec := { _root_.Go.OpenSpec.ofChange s with cond := some uptoSmall }

/-- 'canopylaw.TreeGets', WHERE WHAT IT READS IS OF BULK AT MOST 1048576: true; the input reads as it did. -/
def treeGetsUptoRow : OpenClaim := { program := "ythhcdibimnifaaa", sum := "0b91d0c3edc699e15ec218275cb333cdda39a57f7f9e9f57470a216b1a92cda3", func := "canopy/canopylaw.TreeGets", spec := "treeGets", inPlace := ["internal/bytealg.Compare"], unfollowed := true, recurses := true, apart := false, narrowed := true }
def TreeGetsUptoSaid : Prop := treeGetsUptoRow.holds Try.pinned (OpenSpec.upto treeGetsSpec)

/-- 'canopylaw.TreeRanges', WHERE WHAT IT READS IS OF BULK AT MOST 1048576: true; the input reads as it did. -/
def treeRangesUptoRow : OpenClaim := { program := "ythhcdibimnifaaa", sum := "0b91d0c3edc699e15ec218275cb333cdda39a57f7f9e9f57470a216b1a92cda3", func := "canopy/canopylaw.TreeRanges", spec := "treeRanges", inPlace := ["internal/bytealg.Compare"], unfollowed := true, recurses := true, apart := false, narrowed := true }
def TreeRangesUptoSaid : Prop := treeRangesUptoRow.holds Try.pinned (OpenSpec.upto treeRangesSpec)

/-- 'canopylaw.TreeDeletes', WHERE WHAT IT READS IS OF BULK AT MOST 1048576: true; the input reads as it did. -/
def treeDeletesUptoRow : OpenClaim := { program := "ythhcdibimnifaaa", sum := "0b91d0c3edc699e15ec218275cb333cdda39a57f7f9e9f57470a216b1a92cda3", func := "canopy/canopylaw.TreeDeletes", spec := "treeDeletes", inPlace := ["internal/bytealg.Compare"], unfollowed := true, recurses := true, apart := false, narrowed := true }
def TreeDeletesUptoSaid : Prop := treeDeletesUptoRow.holds Try.pinned (OpenSpec.upto treeDeletesSpec)

/-- 'canopylaw.TreePuts', WHERE WHAT IT READS IS OF BULK AT MOST 1048576: true; the input reads as it did. -/
def treePutsUptoRow : OpenClaim := { program := "ythhcdibimnifaaa", sum := "0b91d0c3edc699e15ec218275cb333cdda39a57f7f9e9f57470a216b1a92cda3", func := "canopy/canopylaw.TreePuts", spec := "treePuts", inPlace := ["internal/bytealg.Compare", "slices.overlaps[canopy/api.Pair]"], unfollowed := true, recurses := true, apart := false, narrowed := true }
def TreePutsUptoSaid : Prop := treePutsUptoRow.holds Try.pinned (OpenSpec.upto treePutsSpec)

/-- 'canopylaw.ForestChecks', WHERE WHAT IT READS IS OF BULK AT MOST 1048576: true; the input reads as it did. -/
def forestChecksUptoRow : OpenClaim := { program := "ythhcdibimnifaaa", sum := "0b91d0c3edc699e15ec218275cb333cdda39a57f7f9e9f57470a216b1a92cda3", func := "canopy/canopylaw.ForestChecks", spec := "forestChecks", inPlace := ["internal/bytealg.Compare"], apart := false, narrowed := true }
def ForestChecksUptoSaid : Prop := forestChecksUptoRow.holds Try.pinned (OpenSpec.upto forestChecksSpec)

/-- 'canopylaw.ForestGets', WHERE WHAT IT READS IS OF BULK AT MOST 1048576: true; the input reads as it did. -/
def forestGetsUptoRow : OpenClaim := { program := "ythhcdibimnifaaa", sum := "0b91d0c3edc699e15ec218275cb333cdda39a57f7f9e9f57470a216b1a92cda3", func := "canopy/canopylaw.ForestGets", spec := "forestGets", inPlace := ["internal/bytealg.Compare"], unfollowed := true, recurses := true, apart := false, narrowed := true }
def ForestGetsUptoSaid : Prop := forestGetsUptoRow.holds Try.pinned (OpenSpec.upto forestGetsSpec)

/-- 'canopylaw.ForestRanges', WHERE WHAT IT READS IS OF BULK AT MOST 1048576: true; the input reads as it did. -/
def forestRangesUptoRow : OpenClaim := { program := "ythhcdibimnifaaa", sum := "0b91d0c3edc699e15ec218275cb333cdda39a57f7f9e9f57470a216b1a92cda3", func := "canopy/canopylaw.ForestRanges", spec := "forestRanges", inPlace := ["internal/bytealg.Compare"], unfollowed := true, recurses := true, apart := false, narrowed := true }
def ForestRangesUptoSaid : Prop := forestRangesUptoRow.holds Try.pinned (OpenSpec.upto forestRangesSpec)

/-- 'canopylaw.ForestApplies', WHERE WHAT IT READS IS OF BULK AT MOST 1048576: true; the input reads as it did. -/
def forestAppliesUptoRow : OpenClaim := { program := "ythhcdibimnifaaa", sum := "0b91d0c3edc699e15ec218275cb333cdda39a57f7f9e9f57470a216b1a92cda3", func := "canopy/canopylaw.ForestApplies", spec := "forestApplies", inPlace := ["internal/bytealg.Compare", "slices.overlaps[canopy/api.Pair]", "slices.overlaps[canopy/api.Tenant]"], unfollowed := true, recurses := true, apart := false, narrowed := true }
def ForestAppliesUptoSaid : Prop := forestAppliesUptoRow.holds Try.pinned (OpenSpec.upto forestAppliesSpec)

/-- 'canopylaw.TapeChecks', WHERE WHAT IT READS IS OF BULK AT MOST 1048576: true; the input reads as it did. -/
def tapeChecksUptoRow : OpenClaim := { program := "ythhcdibimnifaaa", sum := "0b91d0c3edc699e15ec218275cb333cdda39a57f7f9e9f57470a216b1a92cda3", func := "canopy/canopylaw.TapeChecks", spec := "tapeChecks", inPlace := ["internal/bytealg.Compare", "slices.overlaps[canopy/api.Pair]", "slices.overlaps[canopy/api.Tenant]"], unfollowed := true, recurses := true, apart := false, narrowed := true }
def TapeChecksUptoSaid : Prop := tapeChecksUptoRow.holds Try.pinned (OpenSpec.upto tapeChecksSpec)

/-- 'canopylaw.TapeEncodes', WHERE WHAT IT READS IS OF BULK AT MOST 1048576: true; the input reads as it did. -/
def tapeEncodesUptoRow : OpenClaim := { program := "ythhcdibimnifaaa", sum := "0b91d0c3edc699e15ec218275cb333cdda39a57f7f9e9f57470a216b1a92cda3", func := "canopy/canopylaw.TapeEncodes", spec := "tapeEncodes", inPlace := ["internal/bytealg.Compare", "slices.overlaps[canopy/api.Pair]", "slices.overlaps[canopy/api.Tenant]"], unfollowed := true, recurses := true, apart := false, narrowed := true }
def TapeEncodesUptoSaid : Prop := tapeEncodesUptoRow.holds Try.pinned (OpenSpec.upto tapeEncodesSpec)

/-- 'canopylaw.TapeDecodes', WHERE WHAT IT READS IS OF BULK AT MOST 1048576: true; the input reads as it did. -/
def tapeDecodesUptoRow : OpenClaim := { program := "ythhcdibimnifaaa", sum := "0b91d0c3edc699e15ec218275cb333cdda39a57f7f9e9f57470a216b1a92cda3", func := "canopy/canopylaw.TapeDecodes", spec := "tapeDecodes", inPlace := ["internal/bytealg.Compare", "slices.overlaps[canopy/api.Pair]", "slices.overlaps[canopy/api.Tenant]"], unfollowed := true, recurses := true, apart := false, narrowed := true }
def TapeDecodesUptoSaid : Prop := tapeDecodesUptoRow.holds Try.pinned (OpenSpec.upto tapeDecodesSpec)

/-- 'canopylaw.HistoryChecks', WHERE WHAT IT READS IS OF BULK AT MOST 1048576: true; the input reads as it did. -/
def historyChecksUptoRow : OpenClaim := { program := "ythhcdibimnifaaa", sum := "0b91d0c3edc699e15ec218275cb333cdda39a57f7f9e9f57470a216b1a92cda3", func := "canopy/canopylaw.HistoryChecks", spec := "historyChecks", inPlace := ["internal/bytealg.Compare", "slices.overlaps[canopy/api.Pair]", "slices.overlaps[canopy/api.Tenant]"], unfollowed := true, recurses := true, apart := false, narrowed := true }
def HistoryChecksUptoSaid : Prop := historyChecksUptoRow.holds Try.pinned (OpenSpec.upto historyChecksSpec)

/-- 'canopylaw.HistoryFolds', WHERE WHAT IT READS IS OF BULK AT MOST 1048576: true; the input reads as it did. -/
def historyFoldsUptoRow : OpenClaim := { program := "ythhcdibimnifaaa", sum := "0b91d0c3edc699e15ec218275cb333cdda39a57f7f9e9f57470a216b1a92cda3", func := "canopy/canopylaw.HistoryFolds", spec := "historyFolds", inPlace := ["internal/bytealg.Compare", "slices.overlaps[canopy/api.Pair]", "slices.overlaps[canopy/api.Tenant]"], unfollowed := true, recurses := true, apart := false, narrowed := true }
def HistoryFoldsUptoSaid : Prop := historyFoldsUptoRow.holds Try.pinned (OpenSpec.upto historyFoldsSpec)

/-- 'canopylaw.TxnChecks', WHERE WHAT IT READS IS OF BULK AT MOST 1048576: true; the input reads as it did. -/
def txnChecksUptoRow : OpenClaim := { program := "ythhcdibimnifaaa", sum := "0b91d0c3edc699e15ec218275cb333cdda39a57f7f9e9f57470a216b1a92cda3", func := "canopy/canopylaw.TxnChecks", spec := "txnChecks", inPlace := ["internal/bytealg.Compare", "slices.overlaps[canopy/api.Pair]", "slices.overlaps[canopy/api.Tenant]"], unfollowed := true, recurses := true, apart := false, narrowed := true }
def TxnChecksUptoSaid : Prop := txnChecksUptoRow.holds Try.pinned (OpenSpec.upto txnChecksSpec)

/-- 'canopylaw.TxnClashes', WHERE WHAT IT READS IS OF BULK AT MOST 1048576: true; the input reads as it did. -/
def txnClashesUptoRow : OpenClaim := { program := "ythhcdibimnifaaa", sum := "0b91d0c3edc699e15ec218275cb333cdda39a57f7f9e9f57470a216b1a92cda3", func := "canopy/canopylaw.TxnClashes", spec := "txnClashes", inPlace := ["internal/bytealg.Compare", "slices.overlaps[canopy/api.Pair]", "slices.overlaps[canopy/api.Tenant]"], unfollowed := true, recurses := true, apart := false, narrowed := true }
def TxnClashesUptoSaid : Prop := txnClashesUptoRow.holds Try.pinned (OpenSpec.upto txnClashesSpec)

/-- 'canopylaw.TxnNotes', WHERE WHAT IT READS IS OF BULK AT MOST 1048576: true; the input reads as it did. -/
def txnNotesUptoRow : OpenClaim := { program := "ythhcdibimnifaaa", sum := "0b91d0c3edc699e15ec218275cb333cdda39a57f7f9e9f57470a216b1a92cda3", func := "canopy/canopylaw.TxnNotes", spec := "txnNotes", inPlace := ["internal/bytealg.Compare", "slices.overlaps[canopy/api.Pair]", "slices.overlaps[canopy/api.Tenant]"], unfollowed := true, recurses := true, apart := false, narrowed := true }
def TxnNotesUptoSaid : Prop := txnNotesUptoRow.holds Try.pinned (OpenSpec.upto txnNotesSpec)

/-- 'canopylaw.TxnWrites', WHERE WHAT IT READS IS OF BULK AT MOST 1048576: true; the input reads as it did. -/
def txnWritesUptoRow : OpenClaim := { program := "ythhcdibimnifaaa", sum := "0b91d0c3edc699e15ec218275cb333cdda39a57f7f9e9f57470a216b1a92cda3", func := "canopy/canopylaw.TxnWrites", spec := "txnWrites", inPlace := ["internal/bytealg.Compare", "slices.overlaps[canopy/api.Pair]", "slices.overlaps[canopy/api.Tenant]"], unfollowed := true, recurses := true, apart := false, narrowed := true }
def TxnWritesUptoSaid : Prop := txnWritesUptoRow.holds Try.pinned (OpenSpec.upto txnWritesSpec)

/-- 'canopylaw.TxnLooks', WHERE WHAT IT READS IS OF BULK AT MOST 1048576: true; the input reads as it did. -/
def txnLooksUptoRow : OpenClaim := { program := "ythhcdibimnifaaa", sum := "0b91d0c3edc699e15ec218275cb333cdda39a57f7f9e9f57470a216b1a92cda3", func := "canopy/canopylaw.TxnLooks", spec := "txnLooks", inPlace := ["internal/bytealg.Compare", "slices.overlaps[canopy/api.Pair]", "slices.overlaps[canopy/api.Tenant]"], unfollowed := true, recurses := true, apart := false, narrowed := true }
def TxnLooksUptoSaid : Prop := txnLooksUptoRow.holds Try.pinned (OpenSpec.upto txnLooksSpec)

/-- 'canopylaw.TxnScans', WHERE WHAT IT READS IS OF BULK AT MOST 1048576: true; the input reads as it did. -/
def txnScansUptoRow : OpenClaim := { program := "ythhcdibimnifaaa", sum := "0b91d0c3edc699e15ec218275cb333cdda39a57f7f9e9f57470a216b1a92cda3", func := "canopy/canopylaw.TxnScans", spec := "txnScans", inPlace := ["internal/bytealg.Compare", "slices.overlaps[canopy/api.Pair]", "slices.overlaps[canopy/api.Tenant]"], unfollowed := true, recurses := true, apart := false, narrowed := true }
def TxnScansUptoSaid : Prop := txnScansUptoRow.holds Try.pinned (OpenSpec.upto txnScansSpec)

/-- 'canopylaw.ProofChecks', WHERE WHAT IT READS IS OF BULK AT MOST 1048576: true; the input reads as it did. -/
def proofChecksUptoRow : OpenClaim := { program := "ythhcdibimnifaaa", sum := "0b91d0c3edc699e15ec218275cb333cdda39a57f7f9e9f57470a216b1a92cda3", func := "canopy/canopylaw.ProofChecks", spec := "proofChecks", inPlace := ["internal/bytealg.Compare"], apart := false, narrowed := true }
def ProofChecksUptoSaid : Prop := proofChecksUptoRow.holds Try.pinned (OpenSpec.upto proofChecksSpec)

end Rows
end Go.Proofs.Ythhcdibimnifaaa
