/- Contracts (A1). -/
import Derived.Test.YtfidgfddgmppdaaG1
namespace Go.Proofs.Ytfidgfddgmppdaa
open Go.RowKit
attribute [local go_sem] bA cz bC bB bp bt b9 bo b7 b6 bq bz bx bv bw br b8 a6 cell?_grow frozen?_grow af aF aN
attribute [local go_sem] ak ao aO aM aY aj ap aQ aP aX aE bG aq aw ah ai
set_option linter.unusedVariables false
set_option linter.unusedSimpArgs false
end Go.Proofs.Ytfidgfddgmppdaa
