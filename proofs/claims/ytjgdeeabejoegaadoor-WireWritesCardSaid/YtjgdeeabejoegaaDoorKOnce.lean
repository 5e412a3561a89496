/- Once: Tables that a row lists, as the walks' facts. What the kernel reckons once for all rows of the seat. The conditions of each are in its words. -/
import Derived.Test.YtjgdeeabejoegaaDoorRows
import Derived.Lib.LaidTab
import Derived.KernelRfl
import Derived.JoinedOf
import Derived.Test.YtjgdeeabejoegaaDoorKWire
namespace Go.Proofs.YtjgdeeabejoegaaDoor
open Go.RowKit
set_option linter.unusedVariables false
set_option linter.unusedSimpArgs false

def hasZ : List Int := [0, 0, 3, 7, 11, 3, 0, 0, 3]
theorem hasAt_of {W : World} (h : laidMet Tryd.prog [("canopy/wire.has", Rows.laid_canopy_wire_has)] W) : HasAt W := by
  have h1 : Lib.TabIs Tryd.prog W "canopy/wire.has" .i64 hasZ :=
    Lib.tabIs_of_head (rest := []) (g := 0) (t := 104) (e := 3) (n := 9) (by kernel_rfl) (by kernel_rfl) Tryd.underlying104 Tryd.underlying3 (by kernel_rfl) (by kernel_rfl) h
  intro k hk
  rw [h1.cell (by kernel_rfl) k hk]
  have : ∀ k, k < 9 → hasZ.getD k 0 = ((hasS k : Nat) : Int) := by decide
  rw [this k hk]
end Go.Proofs.YtjgdeeabejoegaaDoor
namespace Go.Proofs.YtjgdeeabejoegaaDoor
set_option linter.unusedVariables false
set_option linter.unusedSimpArgs false
theorem lifts : Tryd.prog.liftsFinal = Rows.wireReadsRow.lifted := by kernel_rfl
theorem makes : Tryd.prog.make = some Rows.wireReadsRow.make := by kernel_rfl
theorem enters : Tryd.prog.mayEnter = true := by kernel_rfl
end Go.Proofs.YtjgdeeabejoegaaDoor
