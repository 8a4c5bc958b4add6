/- Plain laws: a new connection (no program in sight). -/
import Derived.Test.YtnmmhbhdcplfmaaMH
import Derived.Test.YtnmmhbhdcplfmaaYD
namespace Go.Proofs.Ytnmmhbhdcplfmaa
open Go.RowKit
end Go.Proofs.Ytnmmhbhdcplfmaa
