/- Contracts (YD). -/
import Derived.Test.YtnmmhbhdcplfmaaXN
import Derived.Test.YtnmmhbhdcplfmaaD0
import Derived.Test.YtnmmhbhdcplfmaaE
namespace Go.Proofs.Ytnmmhbhdcplfmaa
open Go.RowKit
set_option linter.unusedVariables false
set_option linter.unusedSimpArgs false
set_option maxRecDepth 100000

end Go.Proofs.Ytnmmhbhdcplfmaa
