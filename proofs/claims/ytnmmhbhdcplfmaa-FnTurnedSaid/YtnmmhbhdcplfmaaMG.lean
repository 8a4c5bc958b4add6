/- Plain definitions: marks (no program in sight). -/
import Derived.Test.YtnmmhbhdcplfmaaMF
import Derived.Test.YtnmmhbhdcplfmaaYW
import Derived.Test.YtnmmhbhdcplfmaaXH
namespace Go.Proofs.Ytnmmhbhdcplfmaa
open Go.RowKit
def marks {α : Type} (mk : Int → α) (c k : Int) (n : Nat) : List α := (List.range n).map fun (i : Nat) => mk (k + c * (i : Int))
end Go.Proofs.Ytnmmhbhdcplfmaa
