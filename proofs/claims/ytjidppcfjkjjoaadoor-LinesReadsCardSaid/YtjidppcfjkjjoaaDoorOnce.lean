/- What the kernel reckons once for all rows of the seat. -/
import Derived.Test.YtjidppcfjkjjoaaDoorRows
import Derived.KernelRfl
import Derived.JoinedOf
namespace Go.Proofs.YtjidppcfjkjjoaaDoor
set_option linter.unusedVariables false
set_option linter.unusedSimpArgs false
theorem lifts : Tryd.prog.liftsFinal = Rows.linesShowsRow.lifted := by kernel_rfl
theorem makes : Tryd.prog.make = some Rows.linesShowsRow.make := by kernel_rfl
theorem enters : Tryd.prog.mayEnter = true := by kernel_rfl
end Go.Proofs.YtjidppcfjkjjoaaDoor
