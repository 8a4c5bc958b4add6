/- Contracts (A5). -/
import Derived.Test.YtfidgfddgmppdaaA4
namespace Go.Proofs.Ytfidgfddgmppdaa
open Go.RowKit
attribute [local go_sem] cL cK cM cN bC bI bD bN bF bK bJ bG bE bH bP bL bO a6 cell?_grow frozen?_grow aJ bd bq
attribute [local go_sem] aT af bp bm b7 aS ag bo bn b9 bc cQ al aq aN aO
set_option linter.unusedVariables false
set_option linter.unusedSimpArgs false
end Go.Proofs.Ytfidgfddgmppdaa
