/- Contracts (YW). -/
import Derived.Test.YtebgmdiejgcoiaaG1
namespace Go.Proofs.Ytebgmdiejgcoiaa
open Go.RowKit
set_option linter.unusedVariables false
set_option linter.unusedSimpArgs false
set_option maxRecDepth 100000
def aC : List Value := [.int .i64 0, .string (⟨#[]⟩ : ByteArray), .slice none 0 0, .int .i64 0, .bool false]
def dt (x : Pce) : List Value := [.int .i64 x.off, .string x.text]
def a7 (x : Rcv) (x_heldV : Value) : List Value := [.int .i64 x.next, .string x.data, x_heldV, .int .i64 x.fin, .bool x.done]
@[simp] theorem bA : (⟨#[]⟩ : ByteArray).toList = [] := by rw [ByteArray.toList_eq]
end Go.Proofs.Ytebgmdiejgcoiaa
