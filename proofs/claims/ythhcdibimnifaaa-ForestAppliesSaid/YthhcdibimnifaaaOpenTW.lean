/- The openings for tenants and writes together. -/
import Derived.Test.YthhcdibimnifaaaOpenTen
import Derived.Test.YthhcdibimnifaaaOpenWr
namespace Go.Proofs.Ythhcdibimnifaaa
open Go.RowKit
set_option linter.unusedVariables false
set_option linter.unusedSimpArgs false
end Go.Proofs.Ythhcdibimnifaaa
