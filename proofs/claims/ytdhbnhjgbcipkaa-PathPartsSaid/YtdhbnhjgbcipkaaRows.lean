/-
  No cell of these rows narrows 'for every input' (looked for: loops, veiled, ifaces, maps, wideKeys, modest, calm, conditions, laid).
  DERIVED. THE GIVEN ROWS OF THIS SEAT. 10 by the template 'for every input the law returns true; each argument reads behind the call as it read before'; 0 by the template 'total and deterministic' (their statements: YtdhbnhjgbcipkaaTotals.lean).
  GIVEN WITH THE SEED: the statements are not yours to turn. If you find one false, say at which input.
  Laid BY PROGRAM, IN A SANDBOX (cutbox-rows.mjs): the forced cells as the released guide's own fill.sh prints them over the translation 621a9cc1f4655d5d… (all of the seat's roots in one cut). By AI agents, Wed Nov 11 2026. No macro, syntax, notation, axiom, sorry.
-/
import Derived.Test.YtdhbnhjgbcipkaaChecked
import GoSem.Claim
import GoSem.ClaimJoined
import GoSem.ClaimMapViews
import Derived.JoinedTies
import Derived.KernelRfl
namespace Go.Proofs.Ytdhbnhjgbcipkaa
/- THE CELL 'sum', in the pinned program and in every row, IS THE sha256 OF THE DUMP (.gsa) THAT YtdhbnhjgbcipkaaProg.lean LOADS. Nothing in Lean hashes anything: it is a label: what it is worth is what the hold of that sum in a sandbox is worth. -/
noncomputable def Try.pinned : Pinned := { name := "ytdhbnhjgbcipkaa", sum := "621a9cc1f4655d5dd9f2c6faee751752796f04bc64dce8703d204552f9c71554", checked := Try.checked }
namespace Rows
def none {H : Type} : Left H := { results := [], args := [] }

/-- 'canopylaw.Names': WHATEVER THE INPUT: true; the input reads as it did. -/
def namesSpec : ChangeSpec := { name := "names", fn := fun _ => fun
  | [] => { results := [.lit (.bool true)], args := [] }
  | _ => none }
def namesRow : OpenClaim := { program := "ytdhbnhjgbcipkaa", sum := "621a9cc1f4655d5dd9f2c6faee751752796f04bc64dce8703d204552f9c71554", func := "canopy/canopylaw.Names", spec := "names", apart := false }
def NamesSaid : Prop := namesRow.holds Try.pinned (OpenSpec.ofChange namesSpec)

/-- ITS FALSE NEIGHBOUR: 'it returns false'. Refute it at one input. -/
def namesWrong : ChangeSpec := { name := "names", fn := fun _ => fun
  | [] => { results := [.lit (.bool false)], args := [] }
  | _ => none }
def NamesWrongFalsely : Prop := namesRow.holds Try.pinned (OpenSpec.ofChange namesWrong)

/-- 'canopylaw.HistoryKepts': WHATEVER THE INPUT: true; the input reads as it did. -/
def historyKeptsSpec : ChangeSpec := { name := "historyKepts", fn := fun _ => fun
  | [d1, d2] => { results := [.lit (.bool true)], args := [d1, d2] }
  | _ => none }
def historyKeptsRow : OpenClaim := { program := "ytdhbnhjgbcipkaa", sum := "621a9cc1f4655d5dd9f2c6faee751752796f04bc64dce8703d204552f9c71554", func := "canopy/canopylaw.HistoryKepts", spec := "historyKepts", apart := false }
def HistoryKeptsSaid : Prop := historyKeptsRow.holds Try.pinned (OpenSpec.ofChange historyKeptsSpec)

/-- ITS FALSE NEIGHBOUR: 'it returns false'. Refute it at one input. -/
def historyKeptsWrong : ChangeSpec := { name := "historyKepts", fn := fun _ => fun
  | [d1, d2] => { results := [.lit (.bool false)], args := [d1, d2] }
  | _ => none }
def HistoryKeptsWrongFalsely : Prop := historyKeptsRow.holds Try.pinned (OpenSpec.ofChange historyKeptsWrong)

/-- 'canopylaw.PathChecks': WHATEVER THE INPUT: true; the input reads as it did. -/
def pathChecksSpec : ChangeSpec := { name := "pathChecks", fn := fun _ => fun
  | [d] => { results := [.lit (.bool true)], args := [d] }
  | _ => none }
def pathChecksRow : OpenClaim := { program := "ytdhbnhjgbcipkaa", sum := "621a9cc1f4655d5dd9f2c6faee751752796f04bc64dce8703d204552f9c71554", func := "canopy/canopylaw.PathChecks", spec := "pathChecks", apart := false }
def PathChecksSaid : Prop := pathChecksRow.holds Try.pinned (OpenSpec.ofChange pathChecksSpec)

/-- ITS FALSE NEIGHBOUR: 'it returns false'. Refute it at one input. -/
def pathChecksWrong : ChangeSpec := { name := "pathChecks", fn := fun _ => fun
  | [d] => { results := [.lit (.bool false)], args := [d] }
  | _ => none }
def PathChecksWrongFalsely : Prop := pathChecksRow.holds Try.pinned (OpenSpec.ofChange pathChecksWrong)

/-- 'canopylaw.ForestNames': WHATEVER THE INPUT: true; the input reads as it did. -/
def forestNamesSpec : ChangeSpec := { name := "forestNames", fn := fun _ => fun
  | [d] => { results := [.lit (.bool true)], args := [d] }
  | _ => none }
def forestNamesRow : OpenClaim := { program := "ytdhbnhjgbcipkaa", sum := "621a9cc1f4655d5dd9f2c6faee751752796f04bc64dce8703d204552f9c71554", func := "canopy/canopylaw.ForestNames", spec := "forestNames", apart := false }
def ForestNamesSaid : Prop := forestNamesRow.holds Try.pinned (OpenSpec.ofChange forestNamesSpec)

/-- ITS FALSE NEIGHBOUR: 'it returns false'. Refute it at one input. -/
def forestNamesWrong : ChangeSpec := { name := "forestNames", fn := fun _ => fun
  | [d] => { results := [.lit (.bool false)], args := [d] }
  | _ => none }
def ForestNamesWrongFalsely : Prop := forestNamesRow.holds Try.pinned (OpenSpec.ofChange forestNamesWrong)

/-- 'canopylaw.LinesChecks': WHATEVER THE INPUT: true; the input reads as it did. -/
def linesChecksSpec : ChangeSpec := { name := "linesChecks", fn := fun _ => fun
  | [d] => { results := [.lit (.bool true)], args := [d] }
  | _ => none }
def linesChecksRow : OpenClaim := { program := "ytdhbnhjgbcipkaa", sum := "621a9cc1f4655d5dd9f2c6faee751752796f04bc64dce8703d204552f9c71554", func := "canopy/canopylaw.LinesChecks", spec := "linesChecks", apart := false }
def LinesChecksSaid : Prop := linesChecksRow.holds Try.pinned (OpenSpec.ofChange linesChecksSpec)

/-- ITS FALSE NEIGHBOUR: 'it returns false'. Refute it at one input. -/
def linesChecksWrong : ChangeSpec := { name := "linesChecks", fn := fun _ => fun
  | [d] => { results := [.lit (.bool false)], args := [d] }
  | _ => none }
def LinesChecksWrongFalsely : Prop := linesChecksRow.holds Try.pinned (OpenSpec.ofChange linesChecksWrong)

/-- 'canopylaw.TapeSyncs': WHATEVER THE INPUT: true; the input reads as it did. -/
def tapeSyncsSpec : ChangeSpec := { name := "tapeSyncs", fn := fun _ => fun
  | [d] => { results := [.lit (.bool true)], args := [d] }
  | _ => none }
def tapeSyncsRow : OpenClaim := { program := "ytdhbnhjgbcipkaa", sum := "621a9cc1f4655d5dd9f2c6faee751752796f04bc64dce8703d204552f9c71554", func := "canopy/canopylaw.TapeSyncs", spec := "tapeSyncs", apart := false }
def TapeSyncsSaid : Prop := tapeSyncsRow.holds Try.pinned (OpenSpec.ofChange tapeSyncsSpec)

/-- ITS FALSE NEIGHBOUR: 'it returns false'. Refute it at one input. -/
def tapeSyncsWrong : ChangeSpec := { name := "tapeSyncs", fn := fun _ => fun
  | [d] => { results := [.lit (.bool false)], args := [d] }
  | _ => none }
def TapeSyncsWrongFalsely : Prop := tapeSyncsRow.holds Try.pinned (OpenSpec.ofChange tapeSyncsWrong)

/-- 'canopylaw.PathBits': WHATEVER THE INPUT: true; the input reads as it did. -/
def pathBitsSpec : ChangeSpec := { name := "pathBits", fn := fun _ => fun
  | [d1, d2] => { results := [.lit (.bool true)], args := [d1, d2] }
  | _ => none }
def pathBitsRow : OpenClaim := { program := "ytdhbnhjgbcipkaa", sum := "621a9cc1f4655d5dd9f2c6faee751752796f04bc64dce8703d204552f9c71554", func := "canopy/canopylaw.PathBits", spec := "pathBits", apart := false }
def PathBitsSaid : Prop := pathBitsRow.holds Try.pinned (OpenSpec.ofChange pathBitsSpec)

/-- ITS FALSE NEIGHBOUR: 'it returns false'. Refute it at one input. -/
def pathBitsWrong : ChangeSpec := { name := "pathBits", fn := fun _ => fun
  | [d1, d2] => { results := [.lit (.bool false)], args := [d1, d2] }
  | _ => none }
def PathBitsWrongFalsely : Prop := pathBitsRow.holds Try.pinned (OpenSpec.ofChange pathBitsWrong)

/-- 'canopylaw.TapeCrashes': WHATEVER THE INPUT: true; the input reads as it did. -/
def tapeCrashesSpec : ChangeSpec := { name := "tapeCrashes", fn := fun _ => fun
  | [d1, d2] => { results := [.lit (.bool true)], args := [d1, d2] }
  | _ => none }
def tapeCrashesRow : OpenClaim := { program := "ytdhbnhjgbcipkaa", sum := "621a9cc1f4655d5dd9f2c6faee751752796f04bc64dce8703d204552f9c71554", func := "canopy/canopylaw.TapeCrashes", spec := "tapeCrashes", apart := false }
def TapeCrashesSaid : Prop := tapeCrashesRow.holds Try.pinned (OpenSpec.ofChange tapeCrashesSpec)

/-- ITS FALSE NEIGHBOUR: 'it returns false'. Refute it at one input. -/
def tapeCrashesWrong : ChangeSpec := { name := "tapeCrashes", fn := fun _ => fun
  | [d1, d2] => { results := [.lit (.bool false)], args := [d1, d2] }
  | _ => none }
def TapeCrashesWrongFalsely : Prop := tapeCrashesRow.holds Try.pinned (OpenSpec.ofChange tapeCrashesWrong)

/-- 'canopylaw.PathParts': WHATEVER THE INPUT: true; the input reads as it did. -/
def pathPartsSpec : ChangeSpec := { name := "pathParts", fn := fun _ => fun
  | [d1, d2] => { results := [.lit (.bool true)], args := [d1, d2] }
  | _ => none }
def pathPartsRow : OpenClaim := { program := "ytdhbnhjgbcipkaa", sum := "621a9cc1f4655d5dd9f2c6faee751752796f04bc64dce8703d204552f9c71554", func := "canopy/canopylaw.PathParts", spec := "pathParts", apart := false }
def PathPartsSaid : Prop := pathPartsRow.holds Try.pinned (OpenSpec.ofChange pathPartsSpec)

/-- ITS FALSE NEIGHBOUR: 'it returns false'. Refute it at one input. -/
def pathPartsWrong : ChangeSpec := { name := "pathParts", fn := fun _ => fun
  | [d1, d2] => { results := [.lit (.bool false)], args := [d1, d2] }
  | _ => none }
def PathPartsWrongFalsely : Prop := pathPartsRow.holds Try.pinned (OpenSpec.ofChange pathPartsWrong)

/-- 'canopylaw.TreeChecks': WHATEVER THE INPUT: true; the input reads as it did. -/
def treeChecksSpec : ChangeSpec := { name := "treeChecks", fn := fun _ => fun
  | [d] => { results := [.lit (.bool true)], args := [d] }
  | _ => none }
def treeChecksRow : OpenClaim := { program := "ytdhbnhjgbcipkaa", sum := "621a9cc1f4655d5dd9f2c6faee751752796f04bc64dce8703d204552f9c71554", func := "canopy/canopylaw.TreeChecks", spec := "treeChecks", inPlace := ["internal/bytealg.Compare"], apart := false }
def TreeChecksSaid : Prop := treeChecksRow.holds Try.pinned (OpenSpec.ofChange treeChecksSpec)

/-- ITS FALSE NEIGHBOUR: 'it returns false'. Refute it at one input. -/
def treeChecksWrong : ChangeSpec := { name := "treeChecks", fn := fun _ => fun
  | [d] => { results := [.lit (.bool false)], args := [d] }
  | _ => none }
def TreeChecksWrongFalsely : Prop := treeChecksRow.holds Try.pinned (OpenSpec.ofChange treeChecksWrong)

/- THE SECOND FORM. 'bulk': how many values and letters a reading holds, each counted each time it is reached (what is shared counts as often as it is met; a slice's spare places count too). A statement '..UptoSaid' is the law's where the arguments, and the package variables that the reading takes, are together of bulk at most 1048576: NARROWER than '..Said'. Prove '..Said' where nothing that the law and all that it calls make is longer than what came in: it says more and counts as full. Else prove '..UptoSaid'. A law counts once. -/
mutual
def uptoBulk {H : Type} : DataW H → Nat
  | .lit (.string bytes) => bytes.length + 1
  | .lit _ => 1
  | .nil => 1
  | .ptr d => uptoBulk d + 1
  | .slice elems spare => uptoBulkAll elems + uptoBulkAll spare + 1
  | .agg parts => uptoBulkAll parts + 1
  | .iface _ d => uptoBulk d + 1
  | .map entries => uptoBulkEntries entries + 1
  | .held _ => 1
def uptoBulkAll {H : Type} : List (DataW H) → Nat
  | [] => 0
  | d :: r => uptoBulk d + uptoBulkAll r
def uptoBulkEntries {H : Type} : List (Lit × DataW H) → Nat
  | [] => 0
  | x :: r => uptoBulkEntry x + uptoBulkEntries r
def uptoBulkEntry {H : Type} : Lit × DataW H → Nat
  | (.string bytes, d) => bytes.length + uptoBulk d + 1
  | (_, d) => uptoBulk d + 1
 end
def uptoSmall : (H : Type) → List (DataW H) → Bool := fun _ ds => decide (uptoBulkAll ds ≤ 1048576)
def OpenSpec.upto (s : _root_.Go.ChangeSpec) : _root_.Go.OpenSpec := { _root_.Go.OpenSpec.ofChange s with cond := some uptoSmall }

/-- 'canopylaw.Names', WHERE WHAT IT READS IS OF BULK AT MOST 1048576: true; the input reads as it did. -/
def namesUptoRow : OpenClaim := { program := "ytdhbnhjgbcipkaa", sum := "621a9cc1f4655d5dd9f2c6faee751752796f04bc64dce8703d204552f9c71554", func := "canopy/canopylaw.Names", spec := "names", apart := false, narrowed := true }
def NamesUptoSaid : Prop := namesUptoRow.holds Try.pinned (OpenSpec.upto namesSpec)

/-- 'canopylaw.HistoryKepts', WHERE WHAT IT READS IS OF BULK AT MOST 1048576: true; the input reads as it did. -/
def historyKeptsUptoRow : OpenClaim := { program := "ytdhbnhjgbcipkaa", sum := "621a9cc1f4655d5dd9f2c6faee751752796f04bc64dce8703d204552f9c71554", func := "canopy/canopylaw.HistoryKepts", spec := "historyKepts", apart := false, narrowed := true }
def HistoryKeptsUptoSaid : Prop := historyKeptsUptoRow.holds Try.pinned (OpenSpec.upto historyKeptsSpec)

/-- 'canopylaw.PathChecks', WHERE WHAT IT READS IS OF BULK AT MOST 1048576: true; the input reads as it did. -/
def pathChecksUptoRow : OpenClaim := { program := "ytdhbnhjgbcipkaa", sum := "621a9cc1f4655d5dd9f2c6faee751752796f04bc64dce8703d204552f9c71554", func := "canopy/canopylaw.PathChecks", spec := "pathChecks", apart := false, narrowed := true }
def PathChecksUptoSaid : Prop := pathChecksUptoRow.holds Try.pinned (OpenSpec.upto pathChecksSpec)

/-- 'canopylaw.ForestNames', WHERE WHAT IT READS IS OF BULK AT MOST 1048576: true; the input reads as it did. -/
def forestNamesUptoRow : OpenClaim := { program := "ytdhbnhjgbcipkaa", sum := "621a9cc1f4655d5dd9f2c6faee751752796f04bc64dce8703d204552f9c71554", func := "canopy/canopylaw.ForestNames", spec := "forestNames", apart := false, narrowed := true }
def ForestNamesUptoSaid : Prop := forestNamesUptoRow.holds Try.pinned (OpenSpec.upto forestNamesSpec)

/-- 'canopylaw.LinesChecks', WHERE WHAT IT READS IS OF BULK AT MOST 1048576: true; the input reads as it did. -/
def linesChecksUptoRow : OpenClaim := { program := "ytdhbnhjgbcipkaa", sum := "621a9cc1f4655d5dd9f2c6faee751752796f04bc64dce8703d204552f9c71554", func := "canopy/canopylaw.LinesChecks", spec := "linesChecks", apart := false, narrowed := true }
def LinesChecksUptoSaid : Prop := linesChecksUptoRow.holds Try.pinned (OpenSpec.upto linesChecksSpec)

/-- 'canopylaw.TapeSyncs', WHERE WHAT IT READS IS OF BULK AT MOST 1048576: true; the input reads as it did. -/
def tapeSyncsUptoRow : OpenClaim := { program := "ytdhbnhjgbcipkaa", sum := "621a9cc1f4655d5dd9f2c6faee751752796f04bc64dce8703d204552f9c71554", func := "canopy/canopylaw.TapeSyncs", spec := "tapeSyncs", apart := false, narrowed := true }
def TapeSyncsUptoSaid : Prop := tapeSyncsUptoRow.holds Try.pinned (OpenSpec.upto tapeSyncsSpec)

/-- 'canopylaw.PathBits', WHERE WHAT IT READS IS OF BULK AT MOST 1048576: true; the input reads as it did. -/
def pathBitsUptoRow : OpenClaim := { program := "ytdhbnhjgbcipkaa", sum := "621a9cc1f4655d5dd9f2c6faee751752796f04bc64dce8703d204552f9c71554", func := "canopy/canopylaw.PathBits", spec := "pathBits", apart := false, narrowed := true }
def PathBitsUptoSaid : Prop := pathBitsUptoRow.holds Try.pinned (OpenSpec.upto pathBitsSpec)

/-- 'canopylaw.TapeCrashes', WHERE WHAT IT READS IS OF BULK AT MOST 1048576: true; the input reads as it did. -/
def tapeCrashesUptoRow : OpenClaim := { program := "ytdhbnhjgbcipkaa", sum := "621a9cc1f4655d5dd9f2c6faee751752796f04bc64dce8703d204552f9c71554", func := "canopy/canopylaw.TapeCrashes", spec := "tapeCrashes", apart := false, narrowed := true }
def TapeCrashesUptoSaid : Prop := tapeCrashesUptoRow.holds Try.pinned (OpenSpec.upto tapeCrashesSpec)

/-- 'canopylaw.PathParts', WHERE WHAT IT READS IS OF BULK AT MOST 1048576: true; the input reads as it did. -/
def pathPartsUptoRow : OpenClaim := { program := "ytdhbnhjgbcipkaa", sum := "621a9cc1f4655d5dd9f2c6faee751752796f04bc64dce8703d204552f9c71554", func := "canopy/canopylaw.PathParts", spec := "pathParts", apart := false, narrowed := true }
def PathPartsUptoSaid : Prop := pathPartsUptoRow.holds Try.pinned (OpenSpec.upto pathPartsSpec)

/-- 'canopylaw.TreeChecks', WHERE WHAT IT READS IS OF BULK AT MOST 1048576: true; the input reads as it did. -/
def treeChecksUptoRow : OpenClaim := { program := "ytdhbnhjgbcipkaa", sum := "621a9cc1f4655d5dd9f2c6faee751752796f04bc64dce8703d204552f9c71554", func := "canopy/canopylaw.TreeChecks", spec := "treeChecks", inPlace := ["internal/bytealg.Compare"], apart := false, narrowed := true }
def TreeChecksUptoSaid : Prop := treeChecksUptoRow.holds Try.pinned (OpenSpec.upto treeChecksSpec)

end Rows
end Go.Proofs.Ytdhbnhjgbcipkaa
