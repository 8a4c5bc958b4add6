/- Contracts (YW). -/
import Derived.Test.YtnmmhbhdcplfmaaG1
namespace Go.Proofs.Ytnmmhbhdcplfmaa
open Go.RowKit
set_option linter.unusedVariables false
set_option linter.unusedSimpArgs false
set_option maxRecDepth 100000

def rcvZ : List Value := [.int .i64 0, .string (⟨#[]⟩ : ByteArray), .slice none 0 0, .int .i64 0, .bool false]
def pceL (x : Pce) : List Value := [.int .i64 x.off, .string x.text]
def rcvL (x : Rcv) (x_heldV : Value) : List Value := [.int .i64 x.next, .string x.data, x_heldV, .int .i64 x.fin, .bool x.done]
@[simp] theorem toList_lit0 : (⟨#[]⟩ : ByteArray).toList = [] := by rw [ByteArray.toList_eq]
end Go.Proofs.Ytnmmhbhdcplfmaa
