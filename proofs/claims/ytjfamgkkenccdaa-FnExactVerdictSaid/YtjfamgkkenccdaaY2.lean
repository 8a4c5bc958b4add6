/- Contracts (Y2). -/
import Derived.Test.YtjfamgkkenccdaaY1
import Derived.Test.YtjfamgkkenccdaaYD
import Derived.Test.YtjfamgkkenccdaaE
import Derived.Test.YtjfamgkkenccdaaSPiece
namespace Go.Proofs.Ytjfamgkkenccdaa
open Go.RowKit
set_option linter.unusedVariables false
set_option linter.unusedSimpArgs false
set_option maxRecDepth 100000

end Go.Proofs.Ytjfamgkkenccdaa
