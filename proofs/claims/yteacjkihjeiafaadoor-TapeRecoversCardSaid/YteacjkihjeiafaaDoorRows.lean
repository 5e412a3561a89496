/-
  NARROWER THAN 'FOR EVERY INPUT', by the rows' own cells (each row's printed sentence says how): ForestVerifies: laid · ForestProves: laid · TapeAppends: laid · TapeRecovers: laid · HistoryRoots: laid.
  DERIVED. THE GIVEN ROWS OF THIS SEAT. 5 by the template 'for every input the law returns true; each argument reads behind the call as it read before'; 0 by the template 'total and deterministic' (their statements: YteacjkihjeiafaaDoorTotals.lean).
  GIVEN WITH THE SEED: the statements are not yours to turn. If you find one false, say at which input.
  Laid BY PROGRAM, IN A SANDBOX (cutbox-rows.mjs): the forced cells as the released guide's own fill.sh prints them over the translation 2e5c705233dd85ef… (all of the seat's roots in one cut). By AI agents, Wed Nov 11 2026. No macro, syntax, notation, axiom, sorry.
-/
import Derived.Test.YteacjkihjeiafaaDoorChecked
import GoSem.Claim
import GoSem.ClaimJoined
import GoSem.ClaimMapViews
import Derived.JoinedTies
import Derived.KernelRfl
namespace Go.Proofs.YteacjkihjeiafaaDoor
/- THE CELL 'sum', in the pinned program and in every row, IS THE sha256 OF THE DUMP (.gsa) THAT YteacjkihjeiafaaDoorProg.lean LOADS. Nothing in Lean hashes anything: it is a label: what it is worth is what the hold of that sum in a sandbox is worth. -/
noncomputable def Tryd.pinned : Pinned := { name := "yteacjkihjeiafaadoor", sum := "2e5c705233dd85ef8bbbe20dfe72adccfe348acd49273953d8b9ef449ff048e6", checked := Tryd.checked }
namespace Rows
def none {H : Type} : Left H := { results := [], args := [] }

/- WHAT THE LISTED PACKAGE-LEVEL VARIABLES READ AS WHEN THE CALL BEGINS. Each datum BY PROGRAM (the guide's laid-datum.mjs) off the statement by which the dump's own 'gosem.cut.vars' lays the variable. In a bare row this is a premise. The card (YteacjkihjeiafaaDoorCards.lean) ties it to the program's text. -/
def laid_canopy_digest_rounds {H : Type} : DataW H := .agg [.lit (.int .u64 1), .lit (.int .u64 32898), .lit (.int .u64 9223372036854808714), .lit (.int .u64 9223372039002292224), .lit (.int .u64 32907), .lit (.int .u64 2147483649), .lit (.int .u64 9223372039002292353), .lit (.int .u64 9223372036854808585), .lit (.int .u64 138), .lit (.int .u64 136), .lit (.int .u64 2147516425), .lit (.int .u64 2147483658), .lit (.int .u64 2147516555), .lit (.int .u64 9223372036854775947), .lit (.int .u64 9223372036854808713), .lit (.int .u64 9223372036854808579), .lit (.int .u64 9223372036854808578), .lit (.int .u64 9223372036854775936), .lit (.int .u64 32778), .lit (.int .u64 9223372039002259466), .lit (.int .u64 9223372039002292353), .lit (.int .u64 9223372036854808704), .lit (.int .u64 2147483649), .lit (.int .u64 9223372039002292232)]
def laid_canopy_digest_goes {H : Type} : DataW H := .agg [.lit (.int .i64 10), .lit (.int .i64 7), .lit (.int .i64 11), .lit (.int .i64 17), .lit (.int .i64 18), .lit (.int .i64 3), .lit (.int .i64 5), .lit (.int .i64 16), .lit (.int .i64 8), .lit (.int .i64 21), .lit (.int .i64 24), .lit (.int .i64 4), .lit (.int .i64 15), .lit (.int .i64 23), .lit (.int .i64 19), .lit (.int .i64 13), .lit (.int .i64 12), .lit (.int .i64 2), .lit (.int .i64 20), .lit (.int .i64 14), .lit (.int .i64 22), .lit (.int .i64 9), .lit (.int .i64 6), .lit (.int .i64 1)]
def laid_canopy_digest_turns {H : Type} : DataW H := .agg [.lit (.int .i64 1), .lit (.int .i64 3), .lit (.int .i64 6), .lit (.int .i64 10), .lit (.int .i64 15), .lit (.int .i64 21), .lit (.int .i64 28), .lit (.int .i64 36), .lit (.int .i64 45), .lit (.int .i64 55), .lit (.int .i64 2), .lit (.int .i64 14), .lit (.int .i64 27), .lit (.int .i64 41), .lit (.int .i64 56), .lit (.int .i64 8), .lit (.int .i64 25), .lit (.int .i64 43), .lit (.int .i64 62), .lit (.int .i64 18), .lit (.int .i64 39), .lit (.int .i64 61), .lit (.int .i64 20), .lit (.int .i64 44)]

/-- 'canopylaw.ForestVerifies': WHATEVER THE INPUT: true; the input reads as it did. -/
def forestVerifiesSpec : ChangeSpec := { name := "forestVerifies", fn := fun _ => fun
  | [d1, d2, d3, d4, d5] => { results := [.lit (.bool true)], args := [d1, d2, d3, d4, d5] }
  | _ => none }
def forestVerifiesRow : OpenClaim := { program := "yteacjkihjeiafaadoor", sum := "2e5c705233dd85ef8bbbe20dfe72adccfe348acd49273953d8b9ef449ff048e6", func := "canopy/canopylaw.ForestVerifies", spec := "forestVerifies", inPlace := ["internal/bytealg.Compare"], unfollowed := true, recurses := true, named := ["canopy/digest.goes", "canopy/digest.turns", "canopy/digest.rounds"], apart := false, laid := [("canopy/digest.rounds", laid_canopy_digest_rounds), ("canopy/digest.goes", laid_canopy_digest_goes), ("canopy/digest.turns", laid_canopy_digest_turns)] }
def ForestVerifiesSaid : Prop := forestVerifiesRow.holds Tryd.pinned (OpenSpec.ofChange forestVerifiesSpec)

/-- ITS FALSE NEIGHBOUR: 'it returns false'. Refute it at one input. -/
def forestVerifiesWrong : ChangeSpec := { name := "forestVerifies", fn := fun _ => fun
  | [d1, d2, d3, d4, d5] => { results := [.lit (.bool false)], args := [d1, d2, d3, d4, d5] }
  | _ => none }
def ForestVerifiesWrongFalsely : Prop := forestVerifiesRow.holds Tryd.pinned (OpenSpec.ofChange forestVerifiesWrong)

/-- 'canopylaw.ForestProves': WHATEVER THE INPUT: true; the input reads as it did. -/
def forestProvesSpec : ChangeSpec := { name := "forestProves", fn := fun _ => fun
  | [d1, d2, d3] => { results := [.lit (.bool true)], args := [d1, d2, d3] }
  | _ => none }
def forestProvesRow : OpenClaim := { program := "yteacjkihjeiafaadoor", sum := "2e5c705233dd85ef8bbbe20dfe72adccfe348acd49273953d8b9ef449ff048e6", func := "canopy/canopylaw.ForestProves", spec := "forestProves", inPlace := ["internal/bytealg.Compare"], unfollowed := true, recurses := true, named := ["canopy/digest.goes", "canopy/digest.turns", "canopy/digest.rounds"], apart := false, laid := [("canopy/digest.rounds", laid_canopy_digest_rounds), ("canopy/digest.goes", laid_canopy_digest_goes), ("canopy/digest.turns", laid_canopy_digest_turns)] }
def ForestProvesSaid : Prop := forestProvesRow.holds Tryd.pinned (OpenSpec.ofChange forestProvesSpec)

/-- ITS FALSE NEIGHBOUR: 'it returns false'. Refute it at one input. -/
def forestProvesWrong : ChangeSpec := { name := "forestProves", fn := fun _ => fun
  | [d1, d2, d3] => { results := [.lit (.bool false)], args := [d1, d2, d3] }
  | _ => none }
def ForestProvesWrongFalsely : Prop := forestProvesRow.holds Tryd.pinned (OpenSpec.ofChange forestProvesWrong)

/-- 'canopylaw.TapeAppends': WHATEVER THE INPUT: true; the input reads as it did. -/
def tapeAppendsSpec : ChangeSpec := { name := "tapeAppends", fn := fun _ => fun
  | [d1, d2] => { results := [.lit (.bool true)], args := [d1, d2] }
  | _ => none }
def tapeAppendsRow : OpenClaim := { program := "yteacjkihjeiafaadoor", sum := "2e5c705233dd85ef8bbbe20dfe72adccfe348acd49273953d8b9ef449ff048e6", func := "canopy/canopylaw.TapeAppends", spec := "tapeAppends", inPlace := ["internal/bytealg.Compare", "slices.overlaps[canopy/api.Pair]", "slices.overlaps[canopy/api.Tenant]"], unfollowed := true, recurses := true, named := ["canopy/digest.goes", "canopy/digest.turns", "canopy/digest.rounds"], apart := false, laid := [("canopy/digest.rounds", laid_canopy_digest_rounds), ("canopy/digest.goes", laid_canopy_digest_goes), ("canopy/digest.turns", laid_canopy_digest_turns)] }
def TapeAppendsSaid : Prop := tapeAppendsRow.holds Tryd.pinned (OpenSpec.ofChange tapeAppendsSpec)

/-- ITS FALSE NEIGHBOUR: 'it returns false'. Refute it at one input. -/
def tapeAppendsWrong : ChangeSpec := { name := "tapeAppends", fn := fun _ => fun
  | [d1, d2] => { results := [.lit (.bool false)], args := [d1, d2] }
  | _ => none }
def TapeAppendsWrongFalsely : Prop := tapeAppendsRow.holds Tryd.pinned (OpenSpec.ofChange tapeAppendsWrong)

/-- 'canopylaw.TapeRecovers': WHATEVER THE INPUT: true; the input reads as it did. -/
def tapeRecoversSpec : ChangeSpec := { name := "tapeRecovers", fn := fun _ => fun
  | [d] => { results := [.lit (.bool true)], args := [d] }
  | _ => none }
def tapeRecoversRow : OpenClaim := { program := "yteacjkihjeiafaadoor", sum := "2e5c705233dd85ef8bbbe20dfe72adccfe348acd49273953d8b9ef449ff048e6", func := "canopy/canopylaw.TapeRecovers", spec := "tapeRecovers", inPlace := ["internal/bytealg.Compare", "slices.overlaps[canopy/api.Pair]", "slices.overlaps[canopy/api.Tenant]"], unfollowed := true, recurses := true, named := ["canopy/digest.goes", "canopy/digest.turns", "canopy/digest.rounds"], apart := false, laid := [("canopy/digest.rounds", laid_canopy_digest_rounds), ("canopy/digest.goes", laid_canopy_digest_goes), ("canopy/digest.turns", laid_canopy_digest_turns)] }
def TapeRecoversSaid : Prop := tapeRecoversRow.holds Tryd.pinned (OpenSpec.ofChange tapeRecoversSpec)

/-- ITS FALSE NEIGHBOUR: 'it returns false'. Refute it at one input. -/
def tapeRecoversWrong : ChangeSpec := { name := "tapeRecovers", fn := fun _ => fun
  | [d] => { results := [.lit (.bool false)], args := [d] }
  | _ => none }
def TapeRecoversWrongFalsely : Prop := tapeRecoversRow.holds Tryd.pinned (OpenSpec.ofChange tapeRecoversWrong)

/-- 'canopylaw.HistoryRoots': WHATEVER THE INPUT: true; the input reads as it did. -/
def historyRootsSpec : ChangeSpec := { name := "historyRoots", fn := fun _ => fun
  | [d1, d2] => { results := [.lit (.bool true)], args := [d1, d2] }
  | _ => none }
def historyRootsRow : OpenClaim := { program := "yteacjkihjeiafaadoor", sum := "2e5c705233dd85ef8bbbe20dfe72adccfe348acd49273953d8b9ef449ff048e6", func := "canopy/canopylaw.HistoryRoots", spec := "historyRoots", inPlace := ["internal/bytealg.Compare", "slices.overlaps[canopy/api.Pair]", "slices.overlaps[canopy/api.Tenant]"], unfollowed := true, recurses := true, named := ["canopy/digest.goes", "canopy/digest.turns", "canopy/digest.rounds"], apart := false, laid := [("canopy/digest.rounds", laid_canopy_digest_rounds), ("canopy/digest.goes", laid_canopy_digest_goes), ("canopy/digest.turns", laid_canopy_digest_turns)] }
def HistoryRootsSaid : Prop := historyRootsRow.holds Tryd.pinned (OpenSpec.ofChange historyRootsSpec)

/-- ITS FALSE NEIGHBOUR: 'it returns false'. Refute it at one input. -/
def historyRootsWrong : ChangeSpec := { name := "historyRoots", fn := fun _ => fun
  | [d1, d2] => { results := [.lit (.bool false)], args := [d1, d2] }
  | _ => none }
def HistoryRootsWrongFalsely : Prop := historyRootsRow.holds Tryd.pinned (OpenSpec.ofChange historyRootsWrong)

/- THE SECOND FORM. 'bulk': how many values and letters a reading holds, each counted each time it is reached (what is shared counts as often as it is met; a slice's spare places count too). A statement '..UptoSaid' is the law's where the arguments, and the package variables that the reading takes, are together of bulk at most 1048576: NARROWER than '..Said'. Prove '..Said' where nothing that the law and all that it calls make is longer than what came in: it says more and counts as full. Else prove '..UptoSaid'. A law counts once. -/
mutual
def uptoBulk {H : Type} : DataW H → Nat
  | .lit (.string bytes) => bytes.length + 1
  | .lit _ => 1
  | .nil => 1
  | .ptr d => uptoBulk d + 1
  | .slice elems spare => uptoBulkAll elems + uptoBulkAll spare + 1
  | .agg parts => uptoBulkAll parts + 1
  | .iface _ d => uptoBulk d + 1
  | .map entries => uptoBulkEntries entries + 1
  | .held _ => 1
def uptoBulkAll {H : Type} : List (DataW H) → Nat
  | [] => 0
  | d :: r => uptoBulk d + uptoBulkAll r
def uptoBulkEntries {H : Type} : List (Lit × DataW H) → Nat
  | [] => 0
  | x :: r => uptoBulkEntry x + uptoBulkEntries r
def uptoBulkEntry {H : Type} : Lit × DataW H → Nat
  | (.string bytes, d) => bytes.length + uptoBulk d + 1
  | (_, d) => uptoBulk d + 1
 end
def uptoSmall : (H : Type) → List (DataW H) → Bool := fun _ ds => decide (uptoBulkAll ds ≤ 1048576)
def OpenSpec.upto (s : _root_.Go.ChangeSpec) : _root_.Go.OpenSpec := { _root_.Go.OpenSpec.ofChange s with cond := some uptoSmall }

/-- 'canopylaw.ForestVerifies', WHERE WHAT IT READS IS OF BULK AT MOST 1048576: true; the input reads as it did. -/
def forestVerifiesUptoRow : OpenClaim := { program := "yteacjkihjeiafaadoor", sum := "2e5c705233dd85ef8bbbe20dfe72adccfe348acd49273953d8b9ef449ff048e6", func := "canopy/canopylaw.ForestVerifies", spec := "forestVerifies", inPlace := ["internal/bytealg.Compare"], unfollowed := true, recurses := true, named := ["canopy/digest.goes", "canopy/digest.turns", "canopy/digest.rounds"], apart := false, laid := [("canopy/digest.rounds", laid_canopy_digest_rounds), ("canopy/digest.goes", laid_canopy_digest_goes), ("canopy/digest.turns", laid_canopy_digest_turns)], narrowed := true }
def ForestVerifiesUptoSaid : Prop := forestVerifiesUptoRow.holds Tryd.pinned (OpenSpec.upto forestVerifiesSpec)

/-- 'canopylaw.ForestProves', WHERE WHAT IT READS IS OF BULK AT MOST 1048576: true; the input reads as it did. -/
def forestProvesUptoRow : OpenClaim := { program := "yteacjkihjeiafaadoor", sum := "2e5c705233dd85ef8bbbe20dfe72adccfe348acd49273953d8b9ef449ff048e6", func := "canopy/canopylaw.ForestProves", spec := "forestProves", inPlace := ["internal/bytealg.Compare"], unfollowed := true, recurses := true, named := ["canopy/digest.goes", "canopy/digest.turns", "canopy/digest.rounds"], apart := false, laid := [("canopy/digest.rounds", laid_canopy_digest_rounds), ("canopy/digest.goes", laid_canopy_digest_goes), ("canopy/digest.turns", laid_canopy_digest_turns)], narrowed := true }
def ForestProvesUptoSaid : Prop := forestProvesUptoRow.holds Tryd.pinned (OpenSpec.upto forestProvesSpec)

/-- 'canopylaw.TapeAppends', WHERE WHAT IT READS IS OF BULK AT MOST 1048576: true; the input reads as it did. -/
def tapeAppendsUptoRow : OpenClaim := { program := "yteacjkihjeiafaadoor", sum := "2e5c705233dd85ef8bbbe20dfe72adccfe348acd49273953d8b9ef449ff048e6", func := "canopy/canopylaw.TapeAppends", spec := "tapeAppends", inPlace := ["internal/bytealg.Compare", "slices.overlaps[canopy/api.Pair]", "slices.overlaps[canopy/api.Tenant]"], unfollowed := true, recurses := true, named := ["canopy/digest.goes", "canopy/digest.turns", "canopy/digest.rounds"], apart := false, laid := [("canopy/digest.rounds", laid_canopy_digest_rounds), ("canopy/digest.goes", laid_canopy_digest_goes), ("canopy/digest.turns", laid_canopy_digest_turns)], narrowed := true }
def TapeAppendsUptoSaid : Prop := tapeAppendsUptoRow.holds Tryd.pinned (OpenSpec.upto tapeAppendsSpec)

/-- 'canopylaw.TapeRecovers', WHERE WHAT IT READS IS OF BULK AT MOST 1048576: true; the input reads as it did. -/
def tapeRecoversUptoRow : OpenClaim := { program := "yteacjkihjeiafaadoor", sum := "2e5c705233dd85ef8bbbe20dfe72adccfe348acd49273953d8b9ef449ff048e6", func := "canopy/canopylaw.TapeRecovers", spec := "tapeRecovers", inPlace := ["internal/bytealg.Compare", "slices.overlaps[canopy/api.Pair]", "slices.overlaps[canopy/api.Tenant]"], unfollowed := true, recurses := true, named := ["canopy/digest.goes", "canopy/digest.turns", "canopy/digest.rounds"], apart := false, laid := [("canopy/digest.rounds", laid_canopy_digest_rounds), ("canopy/digest.goes", laid_canopy_digest_goes), ("canopy/digest.turns", laid_canopy_digest_turns)], narrowed := true }
def TapeRecoversUptoSaid : Prop := tapeRecoversUptoRow.holds Tryd.pinned (OpenSpec.upto tapeRecoversSpec)

/-- 'canopylaw.HistoryRoots', WHERE WHAT IT READS IS OF BULK AT MOST 1048576: true; the input reads as it did. -/
def historyRootsUptoRow : OpenClaim := { program := "yteacjkihjeiafaadoor", sum := "2e5c705233dd85ef8bbbe20dfe72adccfe348acd49273953d8b9ef449ff048e6", func := "canopy/canopylaw.HistoryRoots", spec := "historyRoots", inPlace := ["internal/bytealg.Compare", "slices.overlaps[canopy/api.Pair]", "slices.overlaps[canopy/api.Tenant]"], unfollowed := true, recurses := true, named := ["canopy/digest.goes", "canopy/digest.turns", "canopy/digest.rounds"], apart := false, laid := [("canopy/digest.rounds", laid_canopy_digest_rounds), ("canopy/digest.goes", laid_canopy_digest_goes), ("canopy/digest.turns", laid_canopy_digest_turns)], narrowed := true }
def HistoryRootsUptoSaid : Prop := historyRootsUptoRow.holds Tryd.pinned (OpenSpec.upto historyRootsSpec)

end Rows
end Go.Proofs.YteacjkihjeiafaaDoor
