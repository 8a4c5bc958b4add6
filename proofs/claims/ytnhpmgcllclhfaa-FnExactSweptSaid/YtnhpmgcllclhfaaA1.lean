/- Contracts (A1). -/
import Derived.Test.YtnhpmgcllclhfaaG1
namespace Go.Proofs.Ytnhpmgcllclhfaa
open Go.RowKit
attribute [local go_sem] dt dr du dv cz cr cq cv cu co cy cn ct cm bA cw cx a9 cell?_grow frozen?_grow aH bO bg
attribute [local go_sem] aN aW bh bf bt aO aX ba bc bv bN cM ai am aM aL
set_option linter.unusedVariables false
set_option linter.unusedSimpArgs false
end Go.Proofs.Ytnhpmgcllclhfaa
