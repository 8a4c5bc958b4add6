/- Contracts (YD). -/
import Derived.Test.YtnhpmgcllclhfaaG1
namespace Go.Proofs.Ytnhpmgcllclhfaa
open Go.RowKit
set_option linter.unusedVariables false
set_option linter.unusedSimpArgs false
set_option maxRecDepth 100000
end Go.Proofs.Ytnhpmgcllclhfaa
