/-
  NARROWER THAN 'FOR EVERY INPUT', by the rows' own cells (each row's printed sentence says how): WireChecks: laid · WireEncodes: laid · WireDecodes: laid · WireReads: laid · WireWrites: laid · DigestSums: laid · DigestParts: laid · TreeRoots: laid · ForestRoots: laid · ProofVerifies: laid · ProofProves: laid · ForestVerifies: laid · ForestProves: laid · TapeAppends: laid · TapeRecovers: laid · HistoryRoots: laid · LinesShows: laid · LinesReads: laid.
  DERIVED. THE GIVEN ROWS OF THIS SEAT. 18 by the template 'for every input the law returns true; each argument reads behind the call as it read before'; 0 by the template 'total and deterministic' (their statements: YtddppmhpdgecgaaDoorTotals.lean).
  GIVEN WITH THE SEED: the statements are not yours to turn. If you find one false, say at which input.
  Laid BY PROGRAM, IN A SANDBOX (cutbox-rows.mjs): the forced cells as the released guide's own fill.sh prints them over the translation d24ea01547bee043… (all of the seat's roots in one cut). By AI agents, Wed Nov 11 2026. No macro, syntax, notation, axiom, sorry.
-/
import Derived.Test.YtddppmhpdgecgaaDoorChecked
import GoSem.PinnedTables
import GoSem.Claim
import GoSem.ClaimJoined
import GoSem.ClaimMapViews
import Derived.JoinedTies
import Derived.KernelRfl
namespace Go.Proofs.YtddppmhpdgecgaaDoor
/- THE CELL 'sum', in the pinned program and in every row, IS THE sha256 OF THE DUMP (.gsa) THAT YtddppmhpdgecgaaDoorProg.lean LOADS. Nothing in Lean hashes anything: it is a label: what it is worth is what the hold of that sum in a sandbox is worth. -/
noncomputable def Tryd.pinned : Pinned := { name := "ytddppmhpdgecgaadoor", sum := "d24ea01547bee043742337a8980715da0e9b693721a332379642c61d6d417e1f", checked := Tryd.checked }
namespace Rows
def none {H : Type} : Left H := { results := [], args := [] }

/- WHAT THE LISTED PACKAGE-LEVEL VARIABLES READ AS WHEN THE CALL BEGINS. Each datum BY PROGRAM (the guide's laid-datum.mjs) off the statement by which the dump's own 'gosem.cut.vars' lays the variable. In a bare row this is a premise. The card (YtddppmhpdgecgaaDoorCards.lean) ties it to the program's text. -/
def laid_canopy_wire_has {H : Type} : DataW H := .agg [.lit (.int .i64 0), .lit (.int .i64 0), .lit (.int .i64 3), .lit (.int .i64 7), .lit (.int .i64 11), .lit (.int .i64 3), .lit (.int .i64 0), .lit (.int .i64 0), .lit (.int .i64 3)]
def laid_canopy_digest_rounds {H : Type} : DataW H := .agg [.lit (.int .u64 1), .lit (.int .u64 32898), .lit (.int .u64 9223372036854808714), .lit (.int .u64 9223372039002292224), .lit (.int .u64 32907), .lit (.int .u64 2147483649), .lit (.int .u64 9223372039002292353), .lit (.int .u64 9223372036854808585), .lit (.int .u64 138), .lit (.int .u64 136), .lit (.int .u64 2147516425), .lit (.int .u64 2147483658), .lit (.int .u64 2147516555), .lit (.int .u64 9223372036854775947), .lit (.int .u64 9223372036854808713), .lit (.int .u64 9223372036854808579), .lit (.int .u64 9223372036854808578), .lit (.int .u64 9223372036854775936), .lit (.int .u64 32778), .lit (.int .u64 9223372039002259466), .lit (.int .u64 9223372039002292353), .lit (.int .u64 9223372036854808704), .lit (.int .u64 2147483649), .lit (.int .u64 9223372039002292232)]
def laid_canopy_digest_goes {H : Type} : DataW H := .agg [.lit (.int .i64 10), .lit (.int .i64 7), .lit (.int .i64 11), .lit (.int .i64 17), .lit (.int .i64 18), .lit (.int .i64 3), .lit (.int .i64 5), .lit (.int .i64 16), .lit (.int .i64 8), .lit (.int .i64 21), .lit (.int .i64 24), .lit (.int .i64 4), .lit (.int .i64 15), .lit (.int .i64 23), .lit (.int .i64 19), .lit (.int .i64 13), .lit (.int .i64 12), .lit (.int .i64 2), .lit (.int .i64 20), .lit (.int .i64 14), .lit (.int .i64 22), .lit (.int .i64 9), .lit (.int .i64 6), .lit (.int .i64 1)]
def laid_canopy_digest_turns {H : Type} : DataW H := .agg [.lit (.int .i64 1), .lit (.int .i64 3), .lit (.int .i64 6), .lit (.int .i64 10), .lit (.int .i64 15), .lit (.int .i64 21), .lit (.int .i64 28), .lit (.int .i64 36), .lit (.int .i64 45), .lit (.int .i64 55), .lit (.int .i64 2), .lit (.int .i64 14), .lit (.int .i64 27), .lit (.int .i64 41), .lit (.int .i64 56), .lit (.int .i64 8), .lit (.int .i64 25), .lit (.int .i64 43), .lit (.int .i64 62), .lit (.int .i64 18), .lit (.int .i64 39), .lit (.int .i64 61), .lit (.int .i64 20), .lit (.int .i64 44)]
def laid_math_bits_deBruijn32tab {H : Type} : DataW H := .agg [.lit (.int .u8 0), .lit (.int .u8 1), .lit (.int .u8 28), .lit (.int .u8 2), .lit (.int .u8 29), .lit (.int .u8 14), .lit (.int .u8 24), .lit (.int .u8 3), .lit (.int .u8 30), .lit (.int .u8 22), .lit (.int .u8 20), .lit (.int .u8 15), .lit (.int .u8 25), .lit (.int .u8 17), .lit (.int .u8 4), .lit (.int .u8 8), .lit (.int .u8 31), .lit (.int .u8 27), .lit (.int .u8 13), .lit (.int .u8 23), .lit (.int .u8 21), .lit (.int .u8 19), .lit (.int .u8 16), .lit (.int .u8 7), .lit (.int .u8 26), .lit (.int .u8 12), .lit (.int .u8 18), .lit (.int .u8 6), .lit (.int .u8 11), .lit (.int .u8 5), .lit (.int .u8 10), .lit (.int .u8 9)]
def laid_math_bits_deBruijn64tab {H : Type} : DataW H := .agg [.lit (.int .u8 0), .lit (.int .u8 1), .lit (.int .u8 56), .lit (.int .u8 2), .lit (.int .u8 57), .lit (.int .u8 49), .lit (.int .u8 28), .lit (.int .u8 3), .lit (.int .u8 61), .lit (.int .u8 58), .lit (.int .u8 42), .lit (.int .u8 50), .lit (.int .u8 38), .lit (.int .u8 29), .lit (.int .u8 17), .lit (.int .u8 4), .lit (.int .u8 62), .lit (.int .u8 47), .lit (.int .u8 59), .lit (.int .u8 36), .lit (.int .u8 45), .lit (.int .u8 43), .lit (.int .u8 51), .lit (.int .u8 22), .lit (.int .u8 53), .lit (.int .u8 39), .lit (.int .u8 33), .lit (.int .u8 30), .lit (.int .u8 24), .lit (.int .u8 18), .lit (.int .u8 12), .lit (.int .u8 5), .lit (.int .u8 63), .lit (.int .u8 55), .lit (.int .u8 48), .lit (.int .u8 27), .lit (.int .u8 60), .lit (.int .u8 41), .lit (.int .u8 37), .lit (.int .u8 16), .lit (.int .u8 46), .lit (.int .u8 35), .lit (.int .u8 44), .lit (.int .u8 21), .lit (.int .u8 52), .lit (.int .u8 32), .lit (.int .u8 23), .lit (.int .u8 11), .lit (.int .u8 54), .lit (.int .u8 26), .lit (.int .u8 40), .lit (.int .u8 15), .lit (.int .u8 34), .lit (.int .u8 20), .lit (.int .u8 31), .lit (.int .u8 10), .lit (.int .u8 25), .lit (.int .u8 14), .lit (.int .u8 19), .lit (.int .u8 9), .lit (.int .u8 13), .lit (.int .u8 8), .lit (.int .u8 7), .lit (.int .u8 6)]
def laid_internal_strconv_uint64pow10 {H : Type} : DataW H := .agg [.lit (.int .u64 1), .lit (.int .u64 10), .lit (.int .u64 100), .lit (.int .u64 1000), .lit (.int .u64 10000), .lit (.int .u64 100000), .lit (.int .u64 1000000), .lit (.int .u64 10000000), .lit (.int .u64 100000000), .lit (.int .u64 1000000000), .lit (.int .u64 10000000000), .lit (.int .u64 100000000000), .lit (.int .u64 1000000000000), .lit (.int .u64 10000000000000), .lit (.int .u64 100000000000000), .lit (.int .u64 1000000000000000), .lit (.int .u64 10000000000000000), .lit (.int .u64 100000000000000000), .lit (.int .u64 1000000000000000000), .lit (.int .u64 10000000000000000000)]
def laid_canopy_lines_words {H : Type} : DataW H := .agg [.lit (.string []), .lit (.string [97, 115, 107]), .lit (.string [115, 121, 110, 99]), .lit (.string [99, 114, 97, 115, 104]), .lit (.string [115, 116, 97, 114, 116])]
def laid_unicode_utf8_acceptRanges {H : Type} : DataW H := .agg [.agg [.lit (.int .u8 128), .lit (.int .u8 191)], .agg [.lit (.int .u8 160), .lit (.int .u8 191)], .agg [.lit (.int .u8 128), .lit (.int .u8 159)], .agg [.lit (.int .u8 144), .lit (.int .u8 191)], .agg [.lit (.int .u8 128), .lit (.int .u8 143)], .agg [.lit (.int .u8 0), .lit (.int .u8 0)], .agg [.lit (.int .u8 0), .lit (.int .u8 0)], .agg [.lit (.int .u8 0), .lit (.int .u8 0)], .agg [.lit (.int .u8 0), .lit (.int .u8 0)], .agg [.lit (.int .u8 0), .lit (.int .u8 0)], .agg [.lit (.int .u8 0), .lit (.int .u8 0)], .agg [.lit (.int .u8 0), .lit (.int .u8 0)], .agg [.lit (.int .u8 0), .lit (.int .u8 0)], .agg [.lit (.int .u8 0), .lit (.int .u8 0)], .agg [.lit (.int .u8 0), .lit (.int .u8 0)], .agg [.lit (.int .u8 0), .lit (.int .u8 0)]]
def laid_strconv_ErrRange {H : Type} : DataW H := .iface "*errors.errorString" (.ptr (.agg [.lit (.string [118, 97, 108, 117, 101, 32, 111, 117, 116, 32, 111, 102, 32, 114, 97, 110, 103, 101])]))
def laid_strconv_ErrSyntax {H : Type} : DataW H := .iface "*errors.errorString" (.ptr (.agg [.lit (.string [105, 110, 118, 97, 108, 105, 100, 32, 115, 121, 110, 116, 97, 120])]))
/-- One of Go's own tables, pinned by name: the form's constant. -/
def laid_unicode_utf8_first : DataW Unit := Go.Pinned.utf8First

/-- 'canopylaw.WireChecks': WHATEVER THE INPUT: true; the input reads as it did. -/
def wireChecksSpec : ChangeSpec := { name := "wireChecks", fn := fun _ => fun
  | [d] => { results := [.lit (.bool true)], args := [d] }
  | _ => none }
def wireChecksRow : OpenClaim := { program := "ytddppmhpdgecgaadoor", sum := "d24ea01547bee043742337a8980715da0e9b693721a332379642c61d6d417e1f", func := "canopy/canopylaw.WireChecks", spec := "wireChecks", named := ["canopy/wire.has"], apart := false, laid := [("canopy/wire.has", laid_canopy_wire_has)] }
def WireChecksSaid : Prop := wireChecksRow.holds Tryd.pinned (OpenSpec.ofChange wireChecksSpec)

/-- ITS FALSE NEIGHBOUR: 'it returns false'. Refute it at one input. -/
def wireChecksWrong : ChangeSpec := { name := "wireChecks", fn := fun _ => fun
  | [d] => { results := [.lit (.bool false)], args := [d] }
  | _ => none }
def WireChecksWrongFalsely : Prop := wireChecksRow.holds Tryd.pinned (OpenSpec.ofChange wireChecksWrong)

/-- 'canopylaw.WireEncodes': WHATEVER THE INPUT: true; the input reads as it did. -/
def wireEncodesSpec : ChangeSpec := { name := "wireEncodes", fn := fun _ => fun
  | [d] => { results := [.lit (.bool true)], args := [d] }
  | _ => none }
def wireEncodesRow : OpenClaim := { program := "ytddppmhpdgecgaadoor", sum := "d24ea01547bee043742337a8980715da0e9b693721a332379642c61d6d417e1f", func := "canopy/canopylaw.WireEncodes", spec := "wireEncodes", named := ["canopy/wire.has"], apart := false, laid := [("canopy/wire.has", laid_canopy_wire_has)] }
def WireEncodesSaid : Prop := wireEncodesRow.holds Tryd.pinned (OpenSpec.ofChange wireEncodesSpec)

/-- ITS FALSE NEIGHBOUR: 'it returns false'. Refute it at one input. -/
def wireEncodesWrong : ChangeSpec := { name := "wireEncodes", fn := fun _ => fun
  | [d] => { results := [.lit (.bool false)], args := [d] }
  | _ => none }
def WireEncodesWrongFalsely : Prop := wireEncodesRow.holds Tryd.pinned (OpenSpec.ofChange wireEncodesWrong)

/-- 'canopylaw.WireDecodes': WHATEVER THE INPUT: true; the input reads as it did. -/
def wireDecodesSpec : ChangeSpec := { name := "wireDecodes", fn := fun _ => fun
  | [d] => { results := [.lit (.bool true)], args := [d] }
  | _ => none }
def wireDecodesRow : OpenClaim := { program := "ytddppmhpdgecgaadoor", sum := "d24ea01547bee043742337a8980715da0e9b693721a332379642c61d6d417e1f", func := "canopy/canopylaw.WireDecodes", spec := "wireDecodes", named := ["canopy/wire.has"], apart := false, laid := [("canopy/wire.has", laid_canopy_wire_has)] }
def WireDecodesSaid : Prop := wireDecodesRow.holds Tryd.pinned (OpenSpec.ofChange wireDecodesSpec)

/-- ITS FALSE NEIGHBOUR: 'it returns false'. Refute it at one input. -/
def wireDecodesWrong : ChangeSpec := { name := "wireDecodes", fn := fun _ => fun
  | [d] => { results := [.lit (.bool false)], args := [d] }
  | _ => none }
def WireDecodesWrongFalsely : Prop := wireDecodesRow.holds Tryd.pinned (OpenSpec.ofChange wireDecodesWrong)

/-- 'canopylaw.WireReads': WHATEVER THE INPUT: true; the input reads as it did. -/
def wireReadsSpec : ChangeSpec := { name := "wireReads", fn := fun _ => fun
  | [d] => { results := [.lit (.bool true)], args := [d] }
  | _ => none }
def wireReadsRow : OpenClaim := { program := "ytddppmhpdgecgaadoor", sum := "d24ea01547bee043742337a8980715da0e9b693721a332379642c61d6d417e1f", func := "canopy/canopylaw.WireReads", spec := "wireReads", inPlace := ["internal/bytealg.Compare", "slices.overlaps[canopy/api.Pair]", "slices.overlaps[canopy/api.Tenant]"], unfollowed := true, recurses := true, named := ["canopy/wire.has"], apart := false, laid := [("canopy/wire.has", laid_canopy_wire_has)] }
def WireReadsSaid : Prop := wireReadsRow.holds Tryd.pinned (OpenSpec.ofChange wireReadsSpec)

/-- ITS FALSE NEIGHBOUR: 'it returns false'. Refute it at one input. -/
def wireReadsWrong : ChangeSpec := { name := "wireReads", fn := fun _ => fun
  | [d] => { results := [.lit (.bool false)], args := [d] }
  | _ => none }
def WireReadsWrongFalsely : Prop := wireReadsRow.holds Tryd.pinned (OpenSpec.ofChange wireReadsWrong)

/-- 'canopylaw.WireWrites': WHATEVER THE INPUT: true; the input reads as it did. -/
def wireWritesSpec : ChangeSpec := { name := "wireWrites", fn := fun _ => fun
  | [d] => { results := [.lit (.bool true)], args := [d] }
  | _ => none }
def wireWritesRow : OpenClaim := { program := "ytddppmhpdgecgaadoor", sum := "d24ea01547bee043742337a8980715da0e9b693721a332379642c61d6d417e1f", func := "canopy/canopylaw.WireWrites", spec := "wireWrites", inPlace := ["internal/bytealg.Compare", "slices.overlaps[canopy/api.Pair]", "slices.overlaps[canopy/api.Tenant]"], unfollowed := true, recurses := true, named := ["canopy/wire.has"], apart := false, laid := [("canopy/wire.has", laid_canopy_wire_has)] }
def WireWritesSaid : Prop := wireWritesRow.holds Tryd.pinned (OpenSpec.ofChange wireWritesSpec)

/-- ITS FALSE NEIGHBOUR: 'it returns false'. Refute it at one input. -/
def wireWritesWrong : ChangeSpec := { name := "wireWrites", fn := fun _ => fun
  | [d] => { results := [.lit (.bool false)], args := [d] }
  | _ => none }
def WireWritesWrongFalsely : Prop := wireWritesRow.holds Tryd.pinned (OpenSpec.ofChange wireWritesWrong)

/-- 'canopylaw.DigestSums': WHATEVER THE INPUT: true; the input reads as it did. -/
def digestSumsSpec : ChangeSpec := { name := "digestSums", fn := fun _ => fun
  | [d] => { results := [.lit (.bool true)], args := [d] }
  | _ => none }
def digestSumsRow : OpenClaim := { program := "ytddppmhpdgecgaadoor", sum := "d24ea01547bee043742337a8980715da0e9b693721a332379642c61d6d417e1f", func := "canopy/canopylaw.DigestSums", spec := "digestSums", named := ["canopy/digest.goes", "canopy/digest.turns", "canopy/digest.rounds"], apart := false, laid := [("canopy/digest.rounds", laid_canopy_digest_rounds), ("canopy/digest.goes", laid_canopy_digest_goes), ("canopy/digest.turns", laid_canopy_digest_turns)] }
def DigestSumsSaid : Prop := digestSumsRow.holds Tryd.pinned (OpenSpec.ofChange digestSumsSpec)

/-- ITS FALSE NEIGHBOUR: 'it returns false'. Refute it at one input. -/
def digestSumsWrong : ChangeSpec := { name := "digestSums", fn := fun _ => fun
  | [d] => { results := [.lit (.bool false)], args := [d] }
  | _ => none }
def DigestSumsWrongFalsely : Prop := digestSumsRow.holds Tryd.pinned (OpenSpec.ofChange digestSumsWrong)

/-- 'canopylaw.DigestParts': WHATEVER THE INPUT: true; the input reads as it did. -/
def digestPartsSpec : ChangeSpec := { name := "digestParts", fn := fun _ => fun
  | [d1, d2] => { results := [.lit (.bool true)], args := [d1, d2] }
  | _ => none }
def digestPartsRow : OpenClaim := { program := "ytddppmhpdgecgaadoor", sum := "d24ea01547bee043742337a8980715da0e9b693721a332379642c61d6d417e1f", func := "canopy/canopylaw.DigestParts", spec := "digestParts", named := ["canopy/digest.goes", "canopy/digest.turns", "canopy/digest.rounds"], apart := false, laid := [("canopy/digest.rounds", laid_canopy_digest_rounds), ("canopy/digest.goes", laid_canopy_digest_goes), ("canopy/digest.turns", laid_canopy_digest_turns)] }
def DigestPartsSaid : Prop := digestPartsRow.holds Tryd.pinned (OpenSpec.ofChange digestPartsSpec)

/-- ITS FALSE NEIGHBOUR: 'it returns false'. Refute it at one input. -/
def digestPartsWrong : ChangeSpec := { name := "digestParts", fn := fun _ => fun
  | [d1, d2] => { results := [.lit (.bool false)], args := [d1, d2] }
  | _ => none }
def DigestPartsWrongFalsely : Prop := digestPartsRow.holds Tryd.pinned (OpenSpec.ofChange digestPartsWrong)

/-- 'canopylaw.TreeRoots': WHATEVER THE INPUT: true; the input reads as it did. -/
def treeRootsSpec : ChangeSpec := { name := "treeRoots", fn := fun _ => fun
  | [d] => { results := [.lit (.bool true)], args := [d] }
  | _ => none }
def treeRootsRow : OpenClaim := { program := "ytddppmhpdgecgaadoor", sum := "d24ea01547bee043742337a8980715da0e9b693721a332379642c61d6d417e1f", func := "canopy/canopylaw.TreeRoots", spec := "treeRoots", inPlace := ["internal/bytealg.Compare"], recurses := true, named := ["canopy/digest.goes", "canopy/digest.turns", "canopy/digest.rounds"], apart := false, laid := [("canopy/digest.rounds", laid_canopy_digest_rounds), ("canopy/digest.goes", laid_canopy_digest_goes), ("canopy/digest.turns", laid_canopy_digest_turns)] }
def TreeRootsSaid : Prop := treeRootsRow.holds Tryd.pinned (OpenSpec.ofChange treeRootsSpec)

/-- ITS FALSE NEIGHBOUR: 'it returns false'. Refute it at one input. -/
def treeRootsWrong : ChangeSpec := { name := "treeRoots", fn := fun _ => fun
  | [d] => { results := [.lit (.bool false)], args := [d] }
  | _ => none }
def TreeRootsWrongFalsely : Prop := treeRootsRow.holds Tryd.pinned (OpenSpec.ofChange treeRootsWrong)

/-- 'canopylaw.ForestRoots': WHATEVER THE INPUT: true; the input reads as it did. -/
def forestRootsSpec : ChangeSpec := { name := "forestRoots", fn := fun _ => fun
  | [d] => { results := [.lit (.bool true)], args := [d] }
  | _ => none }
def forestRootsRow : OpenClaim := { program := "ytddppmhpdgecgaadoor", sum := "d24ea01547bee043742337a8980715da0e9b693721a332379642c61d6d417e1f", func := "canopy/canopylaw.ForestRoots", spec := "forestRoots", inPlace := ["internal/bytealg.Compare"], recurses := true, named := ["canopy/digest.goes", "canopy/digest.turns", "canopy/digest.rounds"], apart := false, laid := [("canopy/digest.rounds", laid_canopy_digest_rounds), ("canopy/digest.goes", laid_canopy_digest_goes), ("canopy/digest.turns", laid_canopy_digest_turns)] }
def ForestRootsSaid : Prop := forestRootsRow.holds Tryd.pinned (OpenSpec.ofChange forestRootsSpec)

/-- ITS FALSE NEIGHBOUR: 'it returns false'. Refute it at one input. -/
def forestRootsWrong : ChangeSpec := { name := "forestRoots", fn := fun _ => fun
  | [d] => { results := [.lit (.bool false)], args := [d] }
  | _ => none }
def ForestRootsWrongFalsely : Prop := forestRootsRow.holds Tryd.pinned (OpenSpec.ofChange forestRootsWrong)

/-- 'canopylaw.ProofVerifies': WHATEVER THE INPUT: true; the input reads as it did. -/
def proofVerifiesSpec : ChangeSpec := { name := "proofVerifies", fn := fun _ => fun
  | [d1, d2, d3] => { results := [.lit (.bool true)], args := [d1, d2, d3] }
  | _ => none }
def proofVerifiesRow : OpenClaim := { program := "ytddppmhpdgecgaadoor", sum := "d24ea01547bee043742337a8980715da0e9b693721a332379642c61d6d417e1f", func := "canopy/canopylaw.ProofVerifies", spec := "proofVerifies", inPlace := ["internal/bytealg.Compare"], unfollowed := true, recurses := true, named := ["canopy/digest.goes", "canopy/digest.turns", "canopy/digest.rounds"], apart := false, laid := [("canopy/digest.rounds", laid_canopy_digest_rounds), ("canopy/digest.goes", laid_canopy_digest_goes), ("canopy/digest.turns", laid_canopy_digest_turns)] }
def ProofVerifiesSaid : Prop := proofVerifiesRow.holds Tryd.pinned (OpenSpec.ofChange proofVerifiesSpec)

/-- ITS FALSE NEIGHBOUR: 'it returns false'. Refute it at one input. -/
def proofVerifiesWrong : ChangeSpec := { name := "proofVerifies", fn := fun _ => fun
  | [d1, d2, d3] => { results := [.lit (.bool false)], args := [d1, d2, d3] }
  | _ => none }
def ProofVerifiesWrongFalsely : Prop := proofVerifiesRow.holds Tryd.pinned (OpenSpec.ofChange proofVerifiesWrong)

/-- 'canopylaw.ProofProves': WHATEVER THE INPUT: true; the input reads as it did. -/
def proofProvesSpec : ChangeSpec := { name := "proofProves", fn := fun _ => fun
  | [d1, d2] => { results := [.lit (.bool true)], args := [d1, d2] }
  | _ => none }
def proofProvesRow : OpenClaim := { program := "ytddppmhpdgecgaadoor", sum := "d24ea01547bee043742337a8980715da0e9b693721a332379642c61d6d417e1f", func := "canopy/canopylaw.ProofProves", spec := "proofProves", inPlace := ["internal/bytealg.Compare"], unfollowed := true, recurses := true, named := ["canopy/digest.goes", "canopy/digest.turns", "canopy/digest.rounds"], apart := false, laid := [("canopy/digest.rounds", laid_canopy_digest_rounds), ("canopy/digest.goes", laid_canopy_digest_goes), ("canopy/digest.turns", laid_canopy_digest_turns)] }
def ProofProvesSaid : Prop := proofProvesRow.holds Tryd.pinned (OpenSpec.ofChange proofProvesSpec)

/-- ITS FALSE NEIGHBOUR: 'it returns false'. Refute it at one input. -/
def proofProvesWrong : ChangeSpec := { name := "proofProves", fn := fun _ => fun
  | [d1, d2] => { results := [.lit (.bool false)], args := [d1, d2] }
  | _ => none }
def ProofProvesWrongFalsely : Prop := proofProvesRow.holds Tryd.pinned (OpenSpec.ofChange proofProvesWrong)

/-- 'canopylaw.ForestVerifies': WHATEVER THE INPUT: true; the input reads as it did. -/
def forestVerifiesSpec : ChangeSpec := { name := "forestVerifies", fn := fun _ => fun
  | [d1, d2, d3, d4, d5] => { results := [.lit (.bool true)], args := [d1, d2, d3, d4, d5] }
  | _ => none }
def forestVerifiesRow : OpenClaim := { program := "ytddppmhpdgecgaadoor", sum := "d24ea01547bee043742337a8980715da0e9b693721a332379642c61d6d417e1f", func := "canopy/canopylaw.ForestVerifies", spec := "forestVerifies", inPlace := ["internal/bytealg.Compare"], unfollowed := true, recurses := true, named := ["canopy/digest.goes", "canopy/digest.turns", "canopy/digest.rounds"], apart := false, laid := [("canopy/digest.rounds", laid_canopy_digest_rounds), ("canopy/digest.goes", laid_canopy_digest_goes), ("canopy/digest.turns", laid_canopy_digest_turns)] }
def ForestVerifiesSaid : Prop := forestVerifiesRow.holds Tryd.pinned (OpenSpec.ofChange forestVerifiesSpec)

/-- ITS FALSE NEIGHBOUR: 'it returns false'. Refute it at one input. -/
def forestVerifiesWrong : ChangeSpec := { name := "forestVerifies", fn := fun _ => fun
  | [d1, d2, d3, d4, d5] => { results := [.lit (.bool false)], args := [d1, d2, d3, d4, d5] }
  | _ => none }
def ForestVerifiesWrongFalsely : Prop := forestVerifiesRow.holds Tryd.pinned (OpenSpec.ofChange forestVerifiesWrong)

/-- 'canopylaw.ForestProves': WHATEVER THE INPUT: true; the input reads as it did. -/
def forestProvesSpec : ChangeSpec := { name := "forestProves", fn := fun _ => fun
  | [d1, d2, d3] => { results := [.lit (.bool true)], args := [d1, d2, d3] }
  | _ => none }
def forestProvesRow : OpenClaim := { program := "ytddppmhpdgecgaadoor", sum := "d24ea01547bee043742337a8980715da0e9b693721a332379642c61d6d417e1f", func := "canopy/canopylaw.ForestProves", spec := "forestProves", inPlace := ["internal/bytealg.Compare"], unfollowed := true, recurses := true, named := ["canopy/digest.goes", "canopy/digest.turns", "canopy/digest.rounds"], apart := false, laid := [("canopy/digest.rounds", laid_canopy_digest_rounds), ("canopy/digest.goes", laid_canopy_digest_goes), ("canopy/digest.turns", laid_canopy_digest_turns)] }
def ForestProvesSaid : Prop := forestProvesRow.holds Tryd.pinned (OpenSpec.ofChange forestProvesSpec)

/-- ITS FALSE NEIGHBOUR: 'it returns false'. Refute it at one input. -/
def forestProvesWrong : ChangeSpec := { name := "forestProves", fn := fun _ => fun
  | [d1, d2, d3] => { results := [.lit (.bool false)], args := [d1, d2, d3] }
  | _ => none }
def ForestProvesWrongFalsely : Prop := forestProvesRow.holds Tryd.pinned (OpenSpec.ofChange forestProvesWrong)

/-- 'canopylaw.TapeAppends': WHATEVER THE INPUT: true; the input reads as it did. -/
def tapeAppendsSpec : ChangeSpec := { name := "tapeAppends", fn := fun _ => fun
  | [d1, d2] => { results := [.lit (.bool true)], args := [d1, d2] }
  | _ => none }
def tapeAppendsRow : OpenClaim := { program := "ytddppmhpdgecgaadoor", sum := "d24ea01547bee043742337a8980715da0e9b693721a332379642c61d6d417e1f", func := "canopy/canopylaw.TapeAppends", spec := "tapeAppends", inPlace := ["internal/bytealg.Compare", "slices.overlaps[canopy/api.Pair]", "slices.overlaps[canopy/api.Tenant]"], unfollowed := true, recurses := true, named := ["canopy/digest.goes", "canopy/digest.turns", "canopy/digest.rounds"], apart := false, laid := [("canopy/digest.rounds", laid_canopy_digest_rounds), ("canopy/digest.goes", laid_canopy_digest_goes), ("canopy/digest.turns", laid_canopy_digest_turns)] }
def TapeAppendsSaid : Prop := tapeAppendsRow.holds Tryd.pinned (OpenSpec.ofChange tapeAppendsSpec)

/-- ITS FALSE NEIGHBOUR: 'it returns false'. Refute it at one input. -/
def tapeAppendsWrong : ChangeSpec := { name := "tapeAppends", fn := fun _ => fun
  | [d1, d2] => { results := [.lit (.bool false)], args := [d1, d2] }
  | _ => none }
def TapeAppendsWrongFalsely : Prop := tapeAppendsRow.holds Tryd.pinned (OpenSpec.ofChange tapeAppendsWrong)

/-- 'canopylaw.TapeRecovers': WHATEVER THE INPUT: true; the input reads as it did. -/
def tapeRecoversSpec : ChangeSpec := { name := "tapeRecovers", fn := fun _ => fun
  | [d] => { results := [.lit (.bool true)], args := [d] }
  | _ => none }
def tapeRecoversRow : OpenClaim := { program := "ytddppmhpdgecgaadoor", sum := "d24ea01547bee043742337a8980715da0e9b693721a332379642c61d6d417e1f", func := "canopy/canopylaw.TapeRecovers", spec := "tapeRecovers", inPlace := ["internal/bytealg.Compare", "slices.overlaps[canopy/api.Pair]", "slices.overlaps[canopy/api.Tenant]"], unfollowed := true, recurses := true, named := ["canopy/digest.goes", "canopy/digest.turns", "canopy/digest.rounds"], apart := false, laid := [("canopy/digest.rounds", laid_canopy_digest_rounds), ("canopy/digest.goes", laid_canopy_digest_goes), ("canopy/digest.turns", laid_canopy_digest_turns)] }
def TapeRecoversSaid : Prop := tapeRecoversRow.holds Tryd.pinned (OpenSpec.ofChange tapeRecoversSpec)

/-- ITS FALSE NEIGHBOUR: 'it returns false'. Refute it at one input. -/
def tapeRecoversWrong : ChangeSpec := { name := "tapeRecovers", fn := fun _ => fun
  | [d] => { results := [.lit (.bool false)], args := [d] }
  | _ => none }
def TapeRecoversWrongFalsely : Prop := tapeRecoversRow.holds Tryd.pinned (OpenSpec.ofChange tapeRecoversWrong)

/-- 'canopylaw.HistoryRoots': WHATEVER THE INPUT: true; the input reads as it did. -/
def historyRootsSpec : ChangeSpec := { name := "historyRoots", fn := fun _ => fun
  | [d1, d2] => { results := [.lit (.bool true)], args := [d1, d2] }
  | _ => none }
def historyRootsRow : OpenClaim := { program := "ytddppmhpdgecgaadoor", sum := "d24ea01547bee043742337a8980715da0e9b693721a332379642c61d6d417e1f", func := "canopy/canopylaw.HistoryRoots", spec := "historyRoots", inPlace := ["internal/bytealg.Compare", "slices.overlaps[canopy/api.Pair]", "slices.overlaps[canopy/api.Tenant]"], unfollowed := true, recurses := true, named := ["canopy/digest.goes", "canopy/digest.turns", "canopy/digest.rounds"], apart := false, laid := [("canopy/digest.rounds", laid_canopy_digest_rounds), ("canopy/digest.goes", laid_canopy_digest_goes), ("canopy/digest.turns", laid_canopy_digest_turns)] }
def HistoryRootsSaid : Prop := historyRootsRow.holds Tryd.pinned (OpenSpec.ofChange historyRootsSpec)

/-- ITS FALSE NEIGHBOUR: 'it returns false'. Refute it at one input. -/
def historyRootsWrong : ChangeSpec := { name := "historyRoots", fn := fun _ => fun
  | [d1, d2] => { results := [.lit (.bool false)], args := [d1, d2] }
  | _ => none }
def HistoryRootsWrongFalsely : Prop := historyRootsRow.holds Tryd.pinned (OpenSpec.ofChange historyRootsWrong)

/-- 'canopylaw.LinesShows': WHATEVER THE INPUT: true; the input reads as it did. -/
def linesShowsSpec : ChangeSpec := { name := "linesShows", fn := fun _ => fun
  | [d] => { results := [.lit (.bool true)], args := [d] }
  | _ => none }
def linesShowsRow : OpenClaim := { program := "ytddppmhpdgecgaadoor", sum := "d24ea01547bee043742337a8980715da0e9b693721a332379642c61d6d417e1f", func := "canopy/canopylaw.LinesShows", spec := "linesShows", inPlace := ["internal/abi.NoEscape"], unfollowed := true, recurses := true, named := ["canopy/lines.words", "internal/strconv.uint64pow10", "math/bits.deBruijn32tab", "math/bits.deBruijn64tab"], apart := false, laid := [("math/bits.deBruijn32tab", laid_math_bits_deBruijn32tab), ("math/bits.deBruijn64tab", laid_math_bits_deBruijn64tab), ("internal/strconv.uint64pow10", laid_internal_strconv_uint64pow10), ("canopy/lines.words", laid_canopy_lines_words)] }
def LinesShowsSaid : Prop := linesShowsRow.holds Tryd.pinned (OpenSpec.ofChange linesShowsSpec)

/-- ITS FALSE NEIGHBOUR: 'it returns false'. Refute it at one input. -/
def linesShowsWrong : ChangeSpec := { name := "linesShows", fn := fun _ => fun
  | [d] => { results := [.lit (.bool false)], args := [d] }
  | _ => none }
def LinesShowsWrongFalsely : Prop := linesShowsRow.holds Tryd.pinned (OpenSpec.ofChange linesShowsWrong)

/-- 'canopylaw.LinesReads': WHATEVER THE INPUT: true; the input reads as it did. -/
def linesReadsSpec : ChangeSpec := { name := "linesReads", fn := fun _ => fun
  | [d] => { results := [.lit (.bool true)], args := [d] }
  | _ => none }
def linesReadsRow : OpenClaim := { program := "ytddppmhpdgecgaadoor", sum := "d24ea01547bee043742337a8980715da0e9b693721a332379642c61d6d417e1f", func := "canopy/canopylaw.LinesReads", spec := "linesReads", inPlace := ["internal/bytealg.IndexByteString", "internal/bytealg.CountString", "internal/bytealg.IndexString", "internal/abi.NoEscape"], unfollowed := true, recurses := true, named := ["canopy/lines.words", "unicode/utf8.first", "unicode/utf8.acceptRanges", "internal/bytealg.MaxLen", "strconv.ErrSyntax", "strconv.ErrRange", "internal/strconv.uint64pow10", "math/bits.deBruijn32tab", "math/bits.deBruijn64tab"], apart := false, laid := [("math/bits.deBruijn32tab", laid_math_bits_deBruijn32tab), ("math/bits.deBruijn64tab", laid_math_bits_deBruijn64tab), ("internal/strconv.uint64pow10", laid_internal_strconv_uint64pow10), ("unicode/utf8.acceptRanges", laid_unicode_utf8_acceptRanges), ("strconv.ErrRange", laid_strconv_ErrRange), ("strconv.ErrSyntax", laid_strconv_ErrSyntax), ("canopy/lines.words", laid_canopy_lines_words), ("unicode/utf8.first", laid_unicode_utf8_first)] }
def LinesReadsSaid : Prop := linesReadsRow.holds Tryd.pinned (OpenSpec.ofChange linesReadsSpec)

/-- ITS FALSE NEIGHBOUR: 'it returns false'. Refute it at one input. -/
def linesReadsWrong : ChangeSpec := { name := "linesReads", fn := fun _ => fun
  | [d] => { results := [.lit (.bool false)], args := [d] }
  | _ => none }
def LinesReadsWrongFalsely : Prop := linesReadsRow.holds Tryd.pinned (OpenSpec.ofChange linesReadsWrong)

/- THE SECOND FORM. 'bulk': how many values and letters a reading holds, each counted each time it is reached (what is shared counts as often as it is met; a slice's spare places count too). A statement '..UptoSaid' is the law's where the arguments, and the package variables that the reading takes, are together of bulk at most 1048576: NARROWER than '..Said'. Prove '..Said' where nothing that the law and all that it calls make is longer than what came in: it says more and counts as full. Else prove '..UptoSaid'. A law counts once. -/
mutual
def uptoBulk {H : Type} : DataW H → Nat
  | .lit (.string bytes) => bytes.length + 1
  | .lit _ => 1
  | .nil => 1
  | .ptr d => uptoBulk d + 1
  | .slice elems spare => uptoBulkAll elems + uptoBulkAll spare + 1
  | .agg parts => uptoBulkAll parts + 1
  | .iface _ d => uptoBulk d + 1
  | .map entries => uptoBulkEntries entries + 1
  | .held _ => 1
def uptoBulkAll {H : Type} : List (DataW H) → Nat
  | [] => 0
  | d :: r => uptoBulk d + uptoBulkAll r
def uptoBulkEntries {H : Type} : List (Lit × DataW H) → Nat
  | [] => 0
  | x :: r => uptoBulkEntry x + uptoBulkEntries r
def uptoBulkEntry {H : Type} : Lit × DataW H → Nat
  | (.string bytes, d) => bytes.length + uptoBulk d + 1
  | (_, d) => uptoBulk d + 1
 end
def uptoSmall : (H : Type) → List (DataW H) → Bool := fun _ ds => decide (uptoBulkAll ds ≤ 1048576)
def OpenSpec.upto (s : _root_.Go.ChangeSpec) : _root_.Go.OpenSpec := { _root_.Go.OpenSpec.ofChange s with cond := some uptoSmall }

/-- 'canopylaw.WireChecks', WHERE WHAT IT READS IS OF BULK AT MOST 1048576: true; the input reads as it did. -/
def wireChecksUptoRow : OpenClaim := { program := "ytddppmhpdgecgaadoor", sum := "d24ea01547bee043742337a8980715da0e9b693721a332379642c61d6d417e1f", func := "canopy/canopylaw.WireChecks", spec := "wireChecks", named := ["canopy/wire.has"], apart := false, laid := [("canopy/wire.has", laid_canopy_wire_has)], narrowed := true }
def WireChecksUptoSaid : Prop := wireChecksUptoRow.holds Tryd.pinned (OpenSpec.upto wireChecksSpec)

/-- 'canopylaw.WireEncodes', WHERE WHAT IT READS IS OF BULK AT MOST 1048576: true; the input reads as it did. -/
def wireEncodesUptoRow : OpenClaim := { program := "ytddppmhpdgecgaadoor", sum := "d24ea01547bee043742337a8980715da0e9b693721a332379642c61d6d417e1f", func := "canopy/canopylaw.WireEncodes", spec := "wireEncodes", named := ["canopy/wire.has"], apart := false, laid := [("canopy/wire.has", laid_canopy_wire_has)], narrowed := true }
def WireEncodesUptoSaid : Prop := wireEncodesUptoRow.holds Tryd.pinned (OpenSpec.upto wireEncodesSpec)

/-- 'canopylaw.WireDecodes', WHERE WHAT IT READS IS OF BULK AT MOST 1048576: true; the input reads as it did. -/
def wireDecodesUptoRow : OpenClaim := { program := "ytddppmhpdgecgaadoor", sum := "d24ea01547bee043742337a8980715da0e9b693721a332379642c61d6d417e1f", func := "canopy/canopylaw.WireDecodes", spec := "wireDecodes", named := ["canopy/wire.has"], apart := false, laid := [("canopy/wire.has", laid_canopy_wire_has)], narrowed := true }
def WireDecodesUptoSaid : Prop := wireDecodesUptoRow.holds Tryd.pinned (OpenSpec.upto wireDecodesSpec)

/-- 'canopylaw.WireReads', WHERE WHAT IT READS IS OF BULK AT MOST 1048576: true; the input reads as it did. -/
def wireReadsUptoRow : OpenClaim := { program := "ytddppmhpdgecgaadoor", sum := "d24ea01547bee043742337a8980715da0e9b693721a332379642c61d6d417e1f", func := "canopy/canopylaw.WireReads", spec := "wireReads", inPlace := ["internal/bytealg.Compare", "slices.overlaps[canopy/api.Pair]", "slices.overlaps[canopy/api.Tenant]"], unfollowed := true, recurses := true, named := ["canopy/wire.has"], apart := false, laid := [("canopy/wire.has", laid_canopy_wire_has)], narrowed := true }
def WireReadsUptoSaid : Prop := wireReadsUptoRow.holds Tryd.pinned (OpenSpec.upto wireReadsSpec)

/-- 'canopylaw.WireWrites', WHERE WHAT IT READS IS OF BULK AT MOST 1048576: true; the input reads as it did. -/
def wireWritesUptoRow : OpenClaim := { program := "ytddppmhpdgecgaadoor", sum := "d24ea01547bee043742337a8980715da0e9b693721a332379642c61d6d417e1f", func := "canopy/canopylaw.WireWrites", spec := "wireWrites", inPlace := ["internal/bytealg.Compare", "slices.overlaps[canopy/api.Pair]", "slices.overlaps[canopy/api.Tenant]"], unfollowed := true, recurses := true, named := ["canopy/wire.has"], apart := false, laid := [("canopy/wire.has", laid_canopy_wire_has)], narrowed := true }
def WireWritesUptoSaid : Prop := wireWritesUptoRow.holds Tryd.pinned (OpenSpec.upto wireWritesSpec)

/-- 'canopylaw.DigestSums', WHERE WHAT IT READS IS OF BULK AT MOST 1048576: true; the input reads as it did. -/
def digestSumsUptoRow : OpenClaim := { program := "ytddppmhpdgecgaadoor", sum := "d24ea01547bee043742337a8980715da0e9b693721a332379642c61d6d417e1f", func := "canopy/canopylaw.DigestSums", spec := "digestSums", named := ["canopy/digest.goes", "canopy/digest.turns", "canopy/digest.rounds"], apart := false, laid := [("canopy/digest.rounds", laid_canopy_digest_rounds), ("canopy/digest.goes", laid_canopy_digest_goes), ("canopy/digest.turns", laid_canopy_digest_turns)], narrowed := true }
def DigestSumsUptoSaid : Prop := digestSumsUptoRow.holds Tryd.pinned (OpenSpec.upto digestSumsSpec)

/-- 'canopylaw.DigestParts', WHERE WHAT IT READS IS OF BULK AT MOST 1048576: true; the input reads as it did. -/
def digestPartsUptoRow : OpenClaim := { program := "ytddppmhpdgecgaadoor", sum := "d24ea01547bee043742337a8980715da0e9b693721a332379642c61d6d417e1f", func := "canopy/canopylaw.DigestParts", spec := "digestParts", named := ["canopy/digest.goes", "canopy/digest.turns", "canopy/digest.rounds"], apart := false, laid := [("canopy/digest.rounds", laid_canopy_digest_rounds), ("canopy/digest.goes", laid_canopy_digest_goes), ("canopy/digest.turns", laid_canopy_digest_turns)], narrowed := true }
def DigestPartsUptoSaid : Prop := digestPartsUptoRow.holds Tryd.pinned (OpenSpec.upto digestPartsSpec)

/-- 'canopylaw.TreeRoots', WHERE WHAT IT READS IS OF BULK AT MOST 1048576: true; the input reads as it did. -/
def treeRootsUptoRow : OpenClaim := { program := "ytddppmhpdgecgaadoor", sum := "d24ea01547bee043742337a8980715da0e9b693721a332379642c61d6d417e1f", func := "canopy/canopylaw.TreeRoots", spec := "treeRoots", inPlace := ["internal/bytealg.Compare"], recurses := true, named := ["canopy/digest.goes", "canopy/digest.turns", "canopy/digest.rounds"], apart := false, laid := [("canopy/digest.rounds", laid_canopy_digest_rounds), ("canopy/digest.goes", laid_canopy_digest_goes), ("canopy/digest.turns", laid_canopy_digest_turns)], narrowed := true }
def TreeRootsUptoSaid : Prop := treeRootsUptoRow.holds Tryd.pinned (OpenSpec.upto treeRootsSpec)

/-- 'canopylaw.ForestRoots', WHERE WHAT IT READS IS OF BULK AT MOST 1048576: true; the input reads as it did. -/
def forestRootsUptoRow : OpenClaim := { program := "ytddppmhpdgecgaadoor", sum := "d24ea01547bee043742337a8980715da0e9b693721a332379642c61d6d417e1f", func := "canopy/canopylaw.ForestRoots", spec := "forestRoots", inPlace := ["internal/bytealg.Compare"], recurses := true, named := ["canopy/digest.goes", "canopy/digest.turns", "canopy/digest.rounds"], apart := false, laid := [("canopy/digest.rounds", laid_canopy_digest_rounds), ("canopy/digest.goes", laid_canopy_digest_goes), ("canopy/digest.turns", laid_canopy_digest_turns)], narrowed := true }
def ForestRootsUptoSaid : Prop := forestRootsUptoRow.holds Tryd.pinned (OpenSpec.upto forestRootsSpec)

/-- 'canopylaw.ProofVerifies', WHERE WHAT IT READS IS OF BULK AT MOST 1048576: true; the input reads as it did. -/
def proofVerifiesUptoRow : OpenClaim := { program := "ytddppmhpdgecgaadoor", sum := "d24ea01547bee043742337a8980715da0e9b693721a332379642c61d6d417e1f", func := "canopy/canopylaw.ProofVerifies", spec := "proofVerifies", inPlace := ["internal/bytealg.Compare"], unfollowed := true, recurses := true, named := ["canopy/digest.goes", "canopy/digest.turns", "canopy/digest.rounds"], apart := false, laid := [("canopy/digest.rounds", laid_canopy_digest_rounds), ("canopy/digest.goes", laid_canopy_digest_goes), ("canopy/digest.turns", laid_canopy_digest_turns)], narrowed := true }
def ProofVerifiesUptoSaid : Prop := proofVerifiesUptoRow.holds Tryd.pinned (OpenSpec.upto proofVerifiesSpec)

/-- 'canopylaw.ProofProves', WHERE WHAT IT READS IS OF BULK AT MOST 1048576: true; the input reads as it did. -/
def proofProvesUptoRow : OpenClaim := { program := "ytddppmhpdgecgaadoor", sum := "d24ea01547bee043742337a8980715da0e9b693721a332379642c61d6d417e1f", func := "canopy/canopylaw.ProofProves", spec := "proofProves", inPlace := ["internal/bytealg.Compare"], unfollowed := true, recurses := true, named := ["canopy/digest.goes", "canopy/digest.turns", "canopy/digest.rounds"], apart := false, laid := [("canopy/digest.rounds", laid_canopy_digest_rounds), ("canopy/digest.goes", laid_canopy_digest_goes), ("canopy/digest.turns", laid_canopy_digest_turns)], narrowed := true }
def ProofProvesUptoSaid : Prop := proofProvesUptoRow.holds Tryd.pinned (OpenSpec.upto proofProvesSpec)

/-- 'canopylaw.ForestVerifies', WHERE WHAT IT READS IS OF BULK AT MOST 1048576: true; the input reads as it did. -/
def forestVerifiesUptoRow : OpenClaim := { program := "ytddppmhpdgecgaadoor", sum := "d24ea01547bee043742337a8980715da0e9b693721a332379642c61d6d417e1f", func := "canopy/canopylaw.ForestVerifies", spec := "forestVerifies", inPlace := ["internal/bytealg.Compare"], unfollowed := true, recurses := true, named := ["canopy/digest.goes", "canopy/digest.turns", "canopy/digest.rounds"], apart := false, laid := [("canopy/digest.rounds", laid_canopy_digest_rounds), ("canopy/digest.goes", laid_canopy_digest_goes), ("canopy/digest.turns", laid_canopy_digest_turns)], narrowed := true }
def ForestVerifiesUptoSaid : Prop := forestVerifiesUptoRow.holds Tryd.pinned (OpenSpec.upto forestVerifiesSpec)

/-- 'canopylaw.ForestProves', WHERE WHAT IT READS IS OF BULK AT MOST 1048576: true; the input reads as it did. -/
def forestProvesUptoRow : OpenClaim := { program := "ytddppmhpdgecgaadoor", sum := "d24ea01547bee043742337a8980715da0e9b693721a332379642c61d6d417e1f", func := "canopy/canopylaw.ForestProves", spec := "forestProves", inPlace := ["internal/bytealg.Compare"], unfollowed := true, recurses := true, named := ["canopy/digest.goes", "canopy/digest.turns", "canopy/digest.rounds"], apart := false, laid := [("canopy/digest.rounds", laid_canopy_digest_rounds), ("canopy/digest.goes", laid_canopy_digest_goes), ("canopy/digest.turns", laid_canopy_digest_turns)], narrowed := true }
def ForestProvesUptoSaid : Prop := forestProvesUptoRow.holds Tryd.pinned (OpenSpec.upto forestProvesSpec)

/-- 'canopylaw.TapeAppends', WHERE WHAT IT READS IS OF BULK AT MOST 1048576: true; the input reads as it did. -/
def tapeAppendsUptoRow : OpenClaim := { program := "ytddppmhpdgecgaadoor", sum := "d24ea01547bee043742337a8980715da0e9b693721a332379642c61d6d417e1f", func := "canopy/canopylaw.TapeAppends", spec := "tapeAppends", inPlace := ["internal/bytealg.Compare", "slices.overlaps[canopy/api.Pair]", "slices.overlaps[canopy/api.Tenant]"], unfollowed := true, recurses := true, named := ["canopy/digest.goes", "canopy/digest.turns", "canopy/digest.rounds"], apart := false, laid := [("canopy/digest.rounds", laid_canopy_digest_rounds), ("canopy/digest.goes", laid_canopy_digest_goes), ("canopy/digest.turns", laid_canopy_digest_turns)], narrowed := true }
def TapeAppendsUptoSaid : Prop := tapeAppendsUptoRow.holds Tryd.pinned (OpenSpec.upto tapeAppendsSpec)

/-- 'canopylaw.TapeRecovers', WHERE WHAT IT READS IS OF BULK AT MOST 1048576: true; the input reads as it did. -/
def tapeRecoversUptoRow : OpenClaim := { program := "ytddppmhpdgecgaadoor", sum := "d24ea01547bee043742337a8980715da0e9b693721a332379642c61d6d417e1f", func := "canopy/canopylaw.TapeRecovers", spec := "tapeRecovers", inPlace := ["internal/bytealg.Compare", "slices.overlaps[canopy/api.Pair]", "slices.overlaps[canopy/api.Tenant]"], unfollowed := true, recurses := true, named := ["canopy/digest.goes", "canopy/digest.turns", "canopy/digest.rounds"], apart := false, laid := [("canopy/digest.rounds", laid_canopy_digest_rounds), ("canopy/digest.goes", laid_canopy_digest_goes), ("canopy/digest.turns", laid_canopy_digest_turns)], narrowed := true }
def TapeRecoversUptoSaid : Prop := tapeRecoversUptoRow.holds Tryd.pinned (OpenSpec.upto tapeRecoversSpec)

/-- 'canopylaw.HistoryRoots', WHERE WHAT IT READS IS OF BULK AT MOST 1048576: true; the input reads as it did. -/
def historyRootsUptoRow : OpenClaim := { program := "ytddppmhpdgecgaadoor", sum := "d24ea01547bee043742337a8980715da0e9b693721a332379642c61d6d417e1f", func := "canopy/canopylaw.HistoryRoots", spec := "historyRoots", inPlace := ["internal/bytealg.Compare", "slices.overlaps[canopy/api.Pair]", "slices.overlaps[canopy/api.Tenant]"], unfollowed := true, recurses := true, named := ["canopy/digest.goes", "canopy/digest.turns", "canopy/digest.rounds"], apart := false, laid := [("canopy/digest.rounds", laid_canopy_digest_rounds), ("canopy/digest.goes", laid_canopy_digest_goes), ("canopy/digest.turns", laid_canopy_digest_turns)], narrowed := true }
def HistoryRootsUptoSaid : Prop := historyRootsUptoRow.holds Tryd.pinned (OpenSpec.upto historyRootsSpec)

/-- 'canopylaw.LinesShows', WHERE WHAT IT READS IS OF BULK AT MOST 1048576: true; the input reads as it did. -/
def linesShowsUptoRow : OpenClaim := { program := "ytddppmhpdgecgaadoor", sum := "d24ea01547bee043742337a8980715da0e9b693721a332379642c61d6d417e1f", func := "canopy/canopylaw.LinesShows", spec := "linesShows", inPlace := ["internal/abi.NoEscape"], unfollowed := true, recurses := true, named := ["canopy/lines.words", "internal/strconv.uint64pow10", "math/bits.deBruijn32tab", "math/bits.deBruijn64tab"], apart := false, laid := [("math/bits.deBruijn32tab", laid_math_bits_deBruijn32tab), ("math/bits.deBruijn64tab", laid_math_bits_deBruijn64tab), ("internal/strconv.uint64pow10", laid_internal_strconv_uint64pow10), ("canopy/lines.words", laid_canopy_lines_words)], narrowed := true }
def LinesShowsUptoSaid : Prop := linesShowsUptoRow.holds Tryd.pinned (OpenSpec.upto linesShowsSpec)

/-- 'canopylaw.LinesReads', WHERE WHAT IT READS IS OF BULK AT MOST 1048576: true; the input reads as it did. -/
def linesReadsUptoRow : OpenClaim := { program := "ytddppmhpdgecgaadoor", sum := "d24ea01547bee043742337a8980715da0e9b693721a332379642c61d6d417e1f", func := "canopy/canopylaw.LinesReads", spec := "linesReads", inPlace := ["internal/bytealg.IndexByteString", "internal/bytealg.CountString", "internal/bytealg.IndexString", "internal/abi.NoEscape"], unfollowed := true, recurses := true, named := ["canopy/lines.words", "unicode/utf8.first", "unicode/utf8.acceptRanges", "internal/bytealg.MaxLen", "strconv.ErrSyntax", "strconv.ErrRange", "internal/strconv.uint64pow10", "math/bits.deBruijn32tab", "math/bits.deBruijn64tab"], apart := false, laid := [("math/bits.deBruijn32tab", laid_math_bits_deBruijn32tab), ("math/bits.deBruijn64tab", laid_math_bits_deBruijn64tab), ("internal/strconv.uint64pow10", laid_internal_strconv_uint64pow10), ("unicode/utf8.acceptRanges", laid_unicode_utf8_acceptRanges), ("strconv.ErrRange", laid_strconv_ErrRange), ("strconv.ErrSyntax", laid_strconv_ErrSyntax), ("canopy/lines.words", laid_canopy_lines_words), ("unicode/utf8.first", laid_unicode_utf8_first)], narrowed := true }
def LinesReadsUptoSaid : Prop := linesReadsUptoRow.holds Tryd.pinned (OpenSpec.upto linesReadsSpec)

end Rows
end Go.Proofs.YtddppmhpdgecgaaDoor
