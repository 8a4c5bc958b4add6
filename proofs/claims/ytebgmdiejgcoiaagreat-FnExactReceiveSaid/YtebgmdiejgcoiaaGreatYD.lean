/- Contracts (YD). -/
import Derived.Test.YtebgmdiejgcoiaaGreatG2
import Derived.Test.YtebgmdiejgcoiaaGreatG1
namespace Go.Proofs.YtebgmdiejgcoiaaGreat
open Go.RowKit
set_option linter.unusedVariables false
set_option linter.unusedSimpArgs false
set_option maxRecDepth 100000

end Go.Proofs.YtebgmdiejgcoiaaGreat
