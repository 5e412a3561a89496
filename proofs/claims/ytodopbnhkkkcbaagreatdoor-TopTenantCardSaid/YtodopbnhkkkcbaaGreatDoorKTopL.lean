/- TopL: Plain laws for the laws of the whole: what is told while the server is down; turns that a sync tells. No program. Walks: canopykeep's SameForest and what it leans on. The conditions of each are in its words. -/
import Derived.Test.YtodopbnhkkkcbaaGreatDoorKSrvP
import Derived.Test.YtodopbnhkkkcbaaGreatDoorKForest
import Derived.Test.YtodopbnhkkkcbaaGreatDoorKTrees
namespace Go.Proofs.YtodopbnhkkkcbaaGreatDoor
open Go.RowKit
set_option linter.unusedVariables false
set_option linter.unusedSimpArgs false
theorem Inv.start {g:Eng} {n:Nat} (h:Inv g n):Inv { g with up:=true } n:={ h with }
end Go.Proofs.YtodopbnhkkkcbaaGreatDoor
