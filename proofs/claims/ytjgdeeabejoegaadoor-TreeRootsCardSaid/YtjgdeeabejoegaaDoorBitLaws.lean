/- The walks of PathBits and PathParts. -/
import Derived.Test.YtjgdeeabejoegaaDoorPathBit
import Derived.OpenShut
namespace Go.Proofs.YtjgdeeabejoegaaDoor
open Go.RowKit
set_option linter.unusedVariables false
set_option linter.unusedSimpArgs false

end Go.Proofs.YtjgdeeabejoegaaDoor
