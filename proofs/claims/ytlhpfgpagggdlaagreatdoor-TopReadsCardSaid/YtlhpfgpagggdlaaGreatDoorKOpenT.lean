/- OpenT: From the form's reading of arguments to the words of Core: acts, tapes. From the form's reading of arguments to the words of Core: tapes. The conditions of each are in its words. -/
import Derived.Test.YtlhpfgpagggdlaaGreatDoorKOpenA
import Derived.Test.YtlhpfgpagggdlaaGreatDoorKTapeK
namespace Go.Proofs.YtlhpfgpagggdlaaGreatDoor
open Go.RowKit Go.ChangeShapes Go.WideShapes Go.ChangeAt Go.Deep
set_option linter.unusedVariables false
set_option linter.unusedSimpArgs false
theorem aV5 (w:World) {H:Type} {enc:TypeId × Value→H} {base:Nat} {spare:Nat→Bool} {held:Bool} {fuel:Nat} {cs:List Value} {x:DataW H × List MemPlace}
  (h:DataW.trod enc Tryz.prog w base spare held fuel 3 cs=some x):∃ n,cs=[.int .i64 n]∧-9223372036854775808≤n∧n≤9223372036854775807:=by
 obtain⟨n,rfl,_,hw⟩:=DataW.trod_int Tryz.underlying3 h
 exact⟨n,rfl,bounds_i64 hw⟩
end Go.Proofs.YtlhpfgpagggdlaaGreatDoor
