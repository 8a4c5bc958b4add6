/- Contracts (YD). -/
import Derived.Test.YtnmmhbhdcplfmaaGreatG1
namespace Go.Proofs.YtnmmhbhdcplfmaaGreat
open Go.RowKit
set_option linter.unusedVariables false
set_option linter.unusedSimpArgs false
set_option maxRecDepth 100000

end Go.Proofs.YtnmmhbhdcplfmaaGreat
