/- Contracts (YD). -/
import Derived.Test.YtebgmdiejgcoiaaG1
namespace Go.Proofs.Ytebgmdiejgcoiaa
open Go.RowKit
set_option linter.unusedVariables false
set_option linter.unusedSimpArgs false
set_option maxRecDepth 100000

end Go.Proofs.Ytebgmdiejgcoiaa
