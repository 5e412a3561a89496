/-
  NARROWER THAN 'FOR EVERY INPUT', by the rows' own cells (each row's printed sentence says how): WireReads: laid · WireWrites: laid · DigestSums: laid · DigestParts: laid · TreeRoots: laid · ForestRoots: laid · ProofVerifies: laid · ProofProves: laid.
  DERIVED. THE GIVEN ROWS OF THIS SEAT. 8 by the template 'for every input the law returns true; each argument reads behind the call as it read before'; 0 by the template 'total and deterministic' (their statements: YtjgdeeabejoegaaDoorTotals.lean).
  GIVEN WITH THE SEED: the statements are not yours to turn. If you find one false, say at which input.
  Laid BY PROGRAM, IN A SANDBOX (cutbox-rows.mjs): the forced cells as the released guide's own fill.sh prints them over the translation 0f9b634444773299… (all of the seat's roots in one cut). By AI agents, Wed Nov 11 2026. No macro, syntax, notation, axiom, sorry.
-/
import Derived.Test.YtjgdeeabejoegaaDoorChecked
import GoSem.Claim
import GoSem.ClaimJoined
import GoSem.ClaimMapViews
import Derived.JoinedTies
import Derived.KernelRfl
namespace Go.Proofs.YtjgdeeabejoegaaDoor
/- THE CELL 'sum', in the pinned program and in every row, IS THE sha256 OF THE DUMP (.gsa) THAT YtjgdeeabejoegaaDoorProg.lean LOADS. Nothing in Lean hashes anything: it is a label: what it is worth is what the hold of that sum in a sandbox is worth. -/
noncomputable def Tryd.pinned : Pinned := { name := "ytjgdeeabejoegaadoor", sum := "0f9b634444773299b7feb9d9240c864f4e6e6c85c5c601b25a4c7e466f3a4ce5", checked := Tryd.checked }
namespace Rows
def none {H : Type} : Left H := { results := [], args := [] }

/- WHAT THE LISTED PACKAGE-LEVEL VARIABLES READ AS WHEN THE CALL BEGINS. Each datum BY PROGRAM (the guide's laid-datum.mjs) off the statement by which the dump's own 'gosem.cut.vars' lays the variable. In a bare row this is a premise. The card (YtjgdeeabejoegaaDoorCards.lean) ties it to the program's text. -/
def laid_canopy_wire_has {H : Type} : DataW H := .agg [.lit (.int .i64 0), .lit (.int .i64 0), .lit (.int .i64 3), .lit (.int .i64 7), .lit (.int .i64 11), .lit (.int .i64 3), .lit (.int .i64 0), .lit (.int .i64 0), .lit (.int .i64 3)]
def laid_canopy_digest_rounds {H : Type} : DataW H := .agg [.lit (.int .u64 1), .lit (.int .u64 32898), .lit (.int .u64 9223372036854808714), .lit (.int .u64 9223372039002292224), .lit (.int .u64 32907), .lit (.int .u64 2147483649), .lit (.int .u64 9223372039002292353), .lit (.int .u64 9223372036854808585), .lit (.int .u64 138), .lit (.int .u64 136), .lit (.int .u64 2147516425), .lit (.int .u64 2147483658), .lit (.int .u64 2147516555), .lit (.int .u64 9223372036854775947), .lit (.int .u64 9223372036854808713), .lit (.int .u64 9223372036854808579), .lit (.int .u64 9223372036854808578), .lit (.int .u64 9223372036854775936), .lit (.int .u64 32778), .lit (.int .u64 9223372039002259466), .lit (.int .u64 9223372039002292353), .lit (.int .u64 9223372036854808704), .lit (.int .u64 2147483649), .lit (.int .u64 9223372039002292232)]
def laid_canopy_digest_goes {H : Type} : DataW H := .agg [.lit (.int .i64 10), .lit (.int .i64 7), .lit (.int .i64 11), .lit (.int .i64 17), .lit (.int .i64 18), .lit (.int .i64 3), .lit (.int .i64 5), .lit (.int .i64 16), .lit (.int .i64 8), .lit (.int .i64 21), .lit (.int .i64 24), .lit (.int .i64 4), .lit (.int .i64 15), .lit (.int .i64 23), .lit (.int .i64 19), .lit (.int .i64 13), .lit (.int .i64 12), .lit (.int .i64 2), .lit (.int .i64 20), .lit (.int .i64 14), .lit (.int .i64 22), .lit (.int .i64 9), .lit (.int .i64 6), .lit (.int .i64 1)]
def laid_canopy_digest_turns {H : Type} : DataW H := .agg [.lit (.int .i64 1), .lit (.int .i64 3), .lit (.int .i64 6), .lit (.int .i64 10), .lit (.int .i64 15), .lit (.int .i64 21), .lit (.int .i64 28), .lit (.int .i64 36), .lit (.int .i64 45), .lit (.int .i64 55), .lit (.int .i64 2), .lit (.int .i64 14), .lit (.int .i64 27), .lit (.int .i64 41), .lit (.int .i64 56), .lit (.int .i64 8), .lit (.int .i64 25), .lit (.int .i64 43), .lit (.int .i64 62), .lit (.int .i64 18), .lit (.int .i64 39), .lit (.int .i64 61), .lit (.int .i64 20), .lit (.int .i64 44)]

/-- 'canopylaw.WireReads': WHATEVER THE INPUT: true; the input reads as it did. -/
def wireReadsSpec : ChangeSpec := { name := "wireReads", fn := fun _ => fun
  | [d] => { results := [.lit (.bool true)], args := [d] }
  | _ => none }
def wireReadsRow : OpenClaim := { program := "ytjgdeeabejoegaadoor", sum := "0f9b634444773299b7feb9d9240c864f4e6e6c85c5c601b25a4c7e466f3a4ce5", func := "canopy/canopylaw.WireReads", spec := "wireReads", inPlace := ["internal/bytealg.Compare", "slices.overlaps[canopy/api.Pair]", "slices.overlaps[canopy/api.Tenant]"], unfollowed := true, recurses := true, named := ["canopy/wire.has"], apart := false, laid := [("canopy/wire.has", laid_canopy_wire_has)] }
def WireReadsSaid : Prop := wireReadsRow.holds Tryd.pinned (OpenSpec.ofChange wireReadsSpec)

/-- ITS FALSE NEIGHBOUR: 'it returns false'. Refute it at one input. -/
def wireReadsWrong : ChangeSpec := { name := "wireReads", fn := fun _ => fun
  | [d] => { results := [.lit (.bool false)], args := [d] }
  | _ => none }
def WireReadsWrongFalsely : Prop := wireReadsRow.holds Tryd.pinned (OpenSpec.ofChange wireReadsWrong)

/-- 'canopylaw.WireWrites': WHATEVER THE INPUT: true; the input reads as it did. -/
def wireWritesSpec : ChangeSpec := { name := "wireWrites", fn := fun _ => fun
  | [d] => { results := [.lit (.bool true)], args := [d] }
  | _ => none }
def wireWritesRow : OpenClaim := { program := "ytjgdeeabejoegaadoor", sum := "0f9b634444773299b7feb9d9240c864f4e6e6c85c5c601b25a4c7e466f3a4ce5", func := "canopy/canopylaw.WireWrites", spec := "wireWrites", inPlace := ["internal/bytealg.Compare", "slices.overlaps[canopy/api.Pair]", "slices.overlaps[canopy/api.Tenant]"], unfollowed := true, recurses := true, named := ["canopy/wire.has"], apart := false, laid := [("canopy/wire.has", laid_canopy_wire_has)] }
def WireWritesSaid : Prop := wireWritesRow.holds Tryd.pinned (OpenSpec.ofChange wireWritesSpec)

/-- ITS FALSE NEIGHBOUR: 'it returns false'. Refute it at one input. -/
def wireWritesWrong : ChangeSpec := { name := "wireWrites", fn := fun _ => fun
  | [d] => { results := [.lit (.bool false)], args := [d] }
  | _ => none }
def WireWritesWrongFalsely : Prop := wireWritesRow.holds Tryd.pinned (OpenSpec.ofChange wireWritesWrong)

/-- 'canopylaw.DigestSums': WHATEVER THE INPUT: true; the input reads as it did. -/
def digestSumsSpec : ChangeSpec := { name := "digestSums", fn := fun _ => fun
  | [d] => { results := [.lit (.bool true)], args := [d] }
  | _ => none }
def digestSumsRow : OpenClaim := { program := "ytjgdeeabejoegaadoor", sum := "0f9b634444773299b7feb9d9240c864f4e6e6c85c5c601b25a4c7e466f3a4ce5", func := "canopy/canopylaw.DigestSums", spec := "digestSums", named := ["canopy/digest.goes", "canopy/digest.turns", "canopy/digest.rounds"], apart := false, laid := [("canopy/digest.rounds", laid_canopy_digest_rounds), ("canopy/digest.goes", laid_canopy_digest_goes), ("canopy/digest.turns", laid_canopy_digest_turns)] }
def DigestSumsSaid : Prop := digestSumsRow.holds Tryd.pinned (OpenSpec.ofChange digestSumsSpec)

/-- ITS FALSE NEIGHBOUR: 'it returns false'. Refute it at one input. -/
def digestSumsWrong : ChangeSpec := { name := "digestSums", fn := fun _ => fun
  | [d] => { results := [.lit (.bool false)], args := [d] }
  | _ => none }
def DigestSumsWrongFalsely : Prop := digestSumsRow.holds Tryd.pinned (OpenSpec.ofChange digestSumsWrong)

/-- 'canopylaw.DigestParts': WHATEVER THE INPUT: true; the input reads as it did. -/
def digestPartsSpec : ChangeSpec := { name := "digestParts", fn := fun _ => fun
  | [d1, d2] => { results := [.lit (.bool true)], args := [d1, d2] }
  | _ => none }
def digestPartsRow : OpenClaim := { program := "ytjgdeeabejoegaadoor", sum := "0f9b634444773299b7feb9d9240c864f4e6e6c85c5c601b25a4c7e466f3a4ce5", func := "canopy/canopylaw.DigestParts", spec := "digestParts", named := ["canopy/digest.goes", "canopy/digest.turns", "canopy/digest.rounds"], apart := false, laid := [("canopy/digest.rounds", laid_canopy_digest_rounds), ("canopy/digest.goes", laid_canopy_digest_goes), ("canopy/digest.turns", laid_canopy_digest_turns)] }
def DigestPartsSaid : Prop := digestPartsRow.holds Tryd.pinned (OpenSpec.ofChange digestPartsSpec)

/-- ITS FALSE NEIGHBOUR: 'it returns false'. Refute it at one input. -/
def digestPartsWrong : ChangeSpec := { name := "digestParts", fn := fun _ => fun
  | [d1, d2] => { results := [.lit (.bool false)], args := [d1, d2] }
  | _ => none }
def DigestPartsWrongFalsely : Prop := digestPartsRow.holds Tryd.pinned (OpenSpec.ofChange digestPartsWrong)

/-- 'canopylaw.TreeRoots': WHATEVER THE INPUT: true; the input reads as it did. -/
def treeRootsSpec : ChangeSpec := { name := "treeRoots", fn := fun _ => fun
  | [d] => { results := [.lit (.bool true)], args := [d] }
  | _ => none }
def treeRootsRow : OpenClaim := { program := "ytjgdeeabejoegaadoor", sum := "0f9b634444773299b7feb9d9240c864f4e6e6c85c5c601b25a4c7e466f3a4ce5", func := "canopy/canopylaw.TreeRoots", spec := "treeRoots", inPlace := ["internal/bytealg.Compare"], recurses := true, named := ["canopy/digest.goes", "canopy/digest.turns", "canopy/digest.rounds"], apart := false, laid := [("canopy/digest.rounds", laid_canopy_digest_rounds), ("canopy/digest.goes", laid_canopy_digest_goes), ("canopy/digest.turns", laid_canopy_digest_turns)] }
def TreeRootsSaid : Prop := treeRootsRow.holds Tryd.pinned (OpenSpec.ofChange treeRootsSpec)

/-- ITS FALSE NEIGHBOUR: 'it returns false'. Refute it at one input. -/
def treeRootsWrong : ChangeSpec := { name := "treeRoots", fn := fun _ => fun
  | [d] => { results := [.lit (.bool false)], args := [d] }
  | _ => none }
def TreeRootsWrongFalsely : Prop := treeRootsRow.holds Tryd.pinned (OpenSpec.ofChange treeRootsWrong)

/-- 'canopylaw.ForestRoots': WHATEVER THE INPUT: true; the input reads as it did. -/
def forestRootsSpec : ChangeSpec := { name := "forestRoots", fn := fun _ => fun
  | [d] => { results := [.lit (.bool true)], args := [d] }
  | _ => none }
def forestRootsRow : OpenClaim := { program := "ytjgdeeabejoegaadoor", sum := "0f9b634444773299b7feb9d9240c864f4e6e6c85c5c601b25a4c7e466f3a4ce5", func := "canopy/canopylaw.ForestRoots", spec := "forestRoots", inPlace := ["internal/bytealg.Compare"], recurses := true, named := ["canopy/digest.goes", "canopy/digest.turns", "canopy/digest.rounds"], apart := false, laid := [("canopy/digest.rounds", laid_canopy_digest_rounds), ("canopy/digest.goes", laid_canopy_digest_goes), ("canopy/digest.turns", laid_canopy_digest_turns)] }
def ForestRootsSaid : Prop := forestRootsRow.holds Tryd.pinned (OpenSpec.ofChange forestRootsSpec)

/-- ITS FALSE NEIGHBOUR: 'it returns false'. Refute it at one input. -/
def forestRootsWrong : ChangeSpec := { name := "forestRoots", fn := fun _ => fun
  | [d] => { results := [.lit (.bool false)], args := [d] }
  | _ => none }
def ForestRootsWrongFalsely : Prop := forestRootsRow.holds Tryd.pinned (OpenSpec.ofChange forestRootsWrong)

/-- 'canopylaw.ProofVerifies': WHATEVER THE INPUT: true; the input reads as it did. -/
def proofVerifiesSpec : ChangeSpec := { name := "proofVerifies", fn := fun _ => fun
  | [d1, d2, d3] => { results := [.lit (.bool true)], args := [d1, d2, d3] }
  | _ => none }
def proofVerifiesRow : OpenClaim := { program := "ytjgdeeabejoegaadoor", sum := "0f9b634444773299b7feb9d9240c864f4e6e6c85c5c601b25a4c7e466f3a4ce5", func := "canopy/canopylaw.ProofVerifies", spec := "proofVerifies", inPlace := ["internal/bytealg.Compare"], unfollowed := true, recurses := true, named := ["canopy/digest.goes", "canopy/digest.turns", "canopy/digest.rounds"], apart := false, laid := [("canopy/digest.rounds", laid_canopy_digest_rounds), ("canopy/digest.goes", laid_canopy_digest_goes), ("canopy/digest.turns", laid_canopy_digest_turns)] }
def ProofVerifiesSaid : Prop := proofVerifiesRow.holds Tryd.pinned (OpenSpec.ofChange proofVerifiesSpec)

/-- ITS FALSE NEIGHBOUR: 'it returns false'. Refute it at one input. -/
def proofVerifiesWrong : ChangeSpec := { name := "proofVerifies", fn := fun _ => fun
  | [d1, d2, d3] => { results := [.lit (.bool false)], args := [d1, d2, d3] }
  | _ => none }
def ProofVerifiesWrongFalsely : Prop := proofVerifiesRow.holds Tryd.pinned (OpenSpec.ofChange proofVerifiesWrong)

/-- 'canopylaw.ProofProves': WHATEVER THE INPUT: true; the input reads as it did. -/
def proofProvesSpec : ChangeSpec := { name := "proofProves", fn := fun _ => fun
  | [d1, d2] => { results := [.lit (.bool true)], args := [d1, d2] }
  | _ => none }
def proofProvesRow : OpenClaim := { program := "ytjgdeeabejoegaadoor", sum := "0f9b634444773299b7feb9d9240c864f4e6e6c85c5c601b25a4c7e466f3a4ce5", func := "canopy/canopylaw.ProofProves", spec := "proofProves", inPlace := ["internal/bytealg.Compare"], unfollowed := true, recurses := true, named := ["canopy/digest.goes", "canopy/digest.turns", "canopy/digest.rounds"], apart := false, laid := [("canopy/digest.rounds", laid_canopy_digest_rounds), ("canopy/digest.goes", laid_canopy_digest_goes), ("canopy/digest.turns", laid_canopy_digest_turns)] }
def ProofProvesSaid : Prop := proofProvesRow.holds Tryd.pinned (OpenSpec.ofChange proofProvesSpec)

/-- ITS FALSE NEIGHBOUR: 'it returns false'. Refute it at one input. -/
def proofProvesWrong : ChangeSpec := { name := "proofProves", fn := fun _ => fun
  | [d1, d2] => { results := [.lit (.bool false)], args := [d1, d2] }
  | _ => none }
def ProofProvesWrongFalsely : Prop := proofProvesRow.holds Tryd.pinned (OpenSpec.ofChange proofProvesWrong)

/- THE SECOND FORM. 'bulk': how many values and letters a reading holds, each counted each time it is reached (what is shared counts as often as it is met; a slice's spare places count too). A statement '..UptoSaid' is the law's where the arguments, and the package variables that the reading takes, are together of bulk at most 1048576: NARROWER than '..Said'. Prove '..Said' where nothing that the law and all that it calls make is longer than what came in: it says more and counts as full. Else prove '..UptoSaid'. A law counts once. -/
mutual
def uptoBulk {H : Type} : DataW H → Nat
  | .lit (.string bytes) => bytes.length + 1
  | .lit _ => 1
  | .nil => 1
  | .ptr d => uptoBulk d + 1
  | .slice elems spare => uptoBulkAll elems + uptoBulkAll spare + 1
  | .agg parts => uptoBulkAll parts + 1
  | .iface _ d => uptoBulk d + 1
  | .map entries => uptoBulkEntries entries + 1
  | .held _ => 1
def uptoBulkAll {H : Type} : List (DataW H) → Nat
  | [] => 0
  | d :: r => uptoBulk d + uptoBulkAll r
def uptoBulkEntries {H : Type} : List (Lit × DataW H) → Nat
  | [] => 0
  | x :: r => uptoBulkEntry x + uptoBulkEntries r
def uptoBulkEntry {H : Type} : Lit × DataW H → Nat
  | (.string bytes, d) => bytes.length + uptoBulk d + 1
  | (_, d) => uptoBulk d + 1
 end
def uptoSmall : (H : Type) → List (DataW H) → Bool := fun _ ds => decide (uptoBulkAll ds ≤ 1048576)
def OpenSpec.upto (s : _root_.Go.ChangeSpec) : _root_.Go.OpenSpec := { _root_.Go.OpenSpec.ofChange s with cond := some uptoSmall }

/-- 'canopylaw.WireReads', WHERE WHAT IT READS IS OF BULK AT MOST 1048576: true; the input reads as it did. -/
def wireReadsUptoRow : OpenClaim := { program := "ytjgdeeabejoegaadoor", sum := "0f9b634444773299b7feb9d9240c864f4e6e6c85c5c601b25a4c7e466f3a4ce5", func := "canopy/canopylaw.WireReads", spec := "wireReads", inPlace := ["internal/bytealg.Compare", "slices.overlaps[canopy/api.Pair]", "slices.overlaps[canopy/api.Tenant]"], unfollowed := true, recurses := true, named := ["canopy/wire.has"], apart := false, laid := [("canopy/wire.has", laid_canopy_wire_has)], narrowed := true }
def WireReadsUptoSaid : Prop := wireReadsUptoRow.holds Tryd.pinned (OpenSpec.upto wireReadsSpec)

/-- 'canopylaw.WireWrites', WHERE WHAT IT READS IS OF BULK AT MOST 1048576: true; the input reads as it did. -/
def wireWritesUptoRow : OpenClaim := { program := "ytjgdeeabejoegaadoor", sum := "0f9b634444773299b7feb9d9240c864f4e6e6c85c5c601b25a4c7e466f3a4ce5", func := "canopy/canopylaw.WireWrites", spec := "wireWrites", inPlace := ["internal/bytealg.Compare", "slices.overlaps[canopy/api.Pair]", "slices.overlaps[canopy/api.Tenant]"], unfollowed := true, recurses := true, named := ["canopy/wire.has"], apart := false, laid := [("canopy/wire.has", laid_canopy_wire_has)], narrowed := true }
def WireWritesUptoSaid : Prop := wireWritesUptoRow.holds Tryd.pinned (OpenSpec.upto wireWritesSpec)

/-- 'canopylaw.DigestSums', WHERE WHAT IT READS IS OF BULK AT MOST 1048576: true; the input reads as it did. -/
def digestSumsUptoRow : OpenClaim := { program := "ytjgdeeabejoegaadoor", sum := "0f9b634444773299b7feb9d9240c864f4e6e6c85c5c601b25a4c7e466f3a4ce5", func := "canopy/canopylaw.DigestSums", spec := "digestSums", named := ["canopy/digest.goes", "canopy/digest.turns", "canopy/digest.rounds"], apart := false, laid := [("canopy/digest.rounds", laid_canopy_digest_rounds), ("canopy/digest.goes", laid_canopy_digest_goes), ("canopy/digest.turns", laid_canopy_digest_turns)], narrowed := true }
def DigestSumsUptoSaid : Prop := digestSumsUptoRow.holds Tryd.pinned (OpenSpec.upto digestSumsSpec)

/-- 'canopylaw.DigestParts', WHERE WHAT IT READS IS OF BULK AT MOST 1048576: true; the input reads as it did. -/
def digestPartsUptoRow : OpenClaim := { program := "ytjgdeeabejoegaadoor", sum := "0f9b634444773299b7feb9d9240c864f4e6e6c85c5c601b25a4c7e466f3a4ce5", func := "canopy/canopylaw.DigestParts", spec := "digestParts", named := ["canopy/digest.goes", "canopy/digest.turns", "canopy/digest.rounds"], apart := false, laid := [("canopy/digest.rounds", laid_canopy_digest_rounds), ("canopy/digest.goes", laid_canopy_digest_goes), ("canopy/digest.turns", laid_canopy_digest_turns)], narrowed := true }
def DigestPartsUptoSaid : Prop := digestPartsUptoRow.holds Tryd.pinned (OpenSpec.upto digestPartsSpec)

/-- 'canopylaw.TreeRoots', WHERE WHAT IT READS IS OF BULK AT MOST 1048576: true; the input reads as it did. -/
def treeRootsUptoRow : OpenClaim := { program := "ytjgdeeabejoegaadoor", sum := "0f9b634444773299b7feb9d9240c864f4e6e6c85c5c601b25a4c7e466f3a4ce5", func := "canopy/canopylaw.TreeRoots", spec := "treeRoots", inPlace := ["internal/bytealg.Compare"], recurses := true, named := ["canopy/digest.goes", "canopy/digest.turns", "canopy/digest.rounds"], apart := false, laid := [("canopy/digest.rounds", laid_canopy_digest_rounds), ("canopy/digest.goes", laid_canopy_digest_goes), ("canopy/digest.turns", laid_canopy_digest_turns)], narrowed := true }
def TreeRootsUptoSaid : Prop := treeRootsUptoRow.holds Tryd.pinned (OpenSpec.upto treeRootsSpec)

/-- 'canopylaw.ForestRoots', WHERE WHAT IT READS IS OF BULK AT MOST 1048576: true; the input reads as it did. -/
def forestRootsUptoRow : OpenClaim := { program := "ytjgdeeabejoegaadoor", sum := "0f9b634444773299b7feb9d9240c864f4e6e6c85c5c601b25a4c7e466f3a4ce5", func := "canopy/canopylaw.ForestRoots", spec := "forestRoots", inPlace := ["internal/bytealg.Compare"], recurses := true, named := ["canopy/digest.goes", "canopy/digest.turns", "canopy/digest.rounds"], apart := false, laid := [("canopy/digest.rounds", laid_canopy_digest_rounds), ("canopy/digest.goes", laid_canopy_digest_goes), ("canopy/digest.turns", laid_canopy_digest_turns)], narrowed := true }
def ForestRootsUptoSaid : Prop := forestRootsUptoRow.holds Tryd.pinned (OpenSpec.upto forestRootsSpec)

/-- 'canopylaw.ProofVerifies', WHERE WHAT IT READS IS OF BULK AT MOST 1048576: true; the input reads as it did. -/
def proofVerifiesUptoRow : OpenClaim := { program := "ytjgdeeabejoegaadoor", sum := "0f9b634444773299b7feb9d9240c864f4e6e6c85c5c601b25a4c7e466f3a4ce5", func := "canopy/canopylaw.ProofVerifies", spec := "proofVerifies", inPlace := ["internal/bytealg.Compare"], unfollowed := true, recurses := true, named := ["canopy/digest.goes", "canopy/digest.turns", "canopy/digest.rounds"], apart := false, laid := [("canopy/digest.rounds", laid_canopy_digest_rounds), ("canopy/digest.goes", laid_canopy_digest_goes), ("canopy/digest.turns", laid_canopy_digest_turns)], narrowed := true }
def ProofVerifiesUptoSaid : Prop := proofVerifiesUptoRow.holds Tryd.pinned (OpenSpec.upto proofVerifiesSpec)

/-- 'canopylaw.ProofProves', WHERE WHAT IT READS IS OF BULK AT MOST 1048576: true; the input reads as it did. -/
def proofProvesUptoRow : OpenClaim := { program := "ytjgdeeabejoegaadoor", sum := "0f9b634444773299b7feb9d9240c864f4e6e6c85c5c601b25a4c7e466f3a4ce5", func := "canopy/canopylaw.ProofProves", spec := "proofProves", inPlace := ["internal/bytealg.Compare"], unfollowed := true, recurses := true, named := ["canopy/digest.goes", "canopy/digest.turns", "canopy/digest.rounds"], apart := false, laid := [("canopy/digest.rounds", laid_canopy_digest_rounds), ("canopy/digest.goes", laid_canopy_digest_goes), ("canopy/digest.turns", laid_canopy_digest_turns)], narrowed := true }
def ProofProvesUptoSaid : Prop := proofProvesUptoRow.holds Tryd.pinned (OpenSpec.upto proofProvesSpec)

end Rows
end Go.Proofs.YtjgdeeabejoegaaDoor
