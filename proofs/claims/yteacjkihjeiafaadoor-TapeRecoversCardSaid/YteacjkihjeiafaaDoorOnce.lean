/- What the kernel reckons once for all rows of the seat. -/
import Derived.Test.YteacjkihjeiafaaDoorRows
import Derived.KernelRfl
import Derived.JoinedOf
namespace Go.Proofs.YteacjkihjeiafaaDoor
set_option linter.unusedVariables false
set_option linter.unusedSimpArgs false
theorem lifts : Tryd.prog.liftsFinal = Rows.forestVerifiesRow.lifted := by kernel_rfl
theorem makes : Tryd.prog.make = some Rows.forestVerifiesRow.make := by kernel_rfl
theorem enters : Tryd.prog.mayEnter = true := by kernel_rfl
end Go.Proofs.YteacjkihjeiafaaDoor
