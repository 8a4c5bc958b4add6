/- Contracts (A3). -/
import Derived.Test.YtebgmdiejgcoiaaA2
namespace Go.Proofs.Ytebgmdiejgcoiaa
open Go.RowKit
attribute [local go_sem] dK dH dN dI cV cL cS cP cM cN cX cR cW cO cY cU cZ bv cell?_grow frozen?_grow bz cq bL
attribute [local go_sem] aL aT bO bN bi aJ aR bP bK bf cx dh af al aG aH
set_option linter.unusedVariables false
set_option linter.unusedSimpArgs false
end Go.Proofs.Ytebgmdiejgcoiaa
