/- Contracts (A5). -/
import Derived.Test.YtfidgfddgmppdaaA4
namespace Go.Proofs.Ytfidgfddgmppdaa
open Go.RowKit
attribute [local go_sem] cm cl ck cj bj bY bi bl bf bg bc ba bh bd bn bo bm a8 cell?_grow frozen?_grow aU bw b0
attribute [local go_sem] ae al b5 aC aK af ak aA aD aJ bv ct ap ar aa ab
set_option linter.unusedVariables false
set_option linter.unusedSimpArgs false
end Go.Proofs.Ytfidgfddgmppdaa
