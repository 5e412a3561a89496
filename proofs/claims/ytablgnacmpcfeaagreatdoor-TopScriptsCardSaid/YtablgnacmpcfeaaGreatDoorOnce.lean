/- What the kernel reckons once for all rows of the seat. -/
import Derived.Test.YtablgnacmpcfeaaGreatDoorRows
import Derived.KernelRfl
import Derived.JoinedOf
namespace Go.Proofs.YtablgnacmpcfeaaGreatDoor
set_option linter.unusedVariables false
set_option linter.unusedSimpArgs false
theorem lifts : Tryz.prog.liftsFinal = Rows.topSerialRow.lifted := by kernel_rfl
theorem makes : Tryz.prog.make = some Rows.topSerialRow.make := by kernel_rfl
theorem enters : Tryz.prog.mayEnter = true := by kernel_rfl
end Go.Proofs.YtablgnacmpcfeaaGreatDoor
