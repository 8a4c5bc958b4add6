/- Contracts (YD). -/
import Derived.Test.YtfidgfddgmppdaaG1
namespace Go.Proofs.Ytfidgfddgmppdaa
open Go.RowKit
set_option linter.unusedVariables false
set_option linter.unusedSimpArgs false
set_option maxRecDepth 100000
end Go.Proofs.Ytfidgfddgmppdaa
