/- Contracts (YW). -/
import Derived.Test.YtfidgfddgmppdaaG2
namespace Go.Proofs.Ytfidgfddgmppdaa
open Go.RowKit
set_option linter.unusedVariables false
set_option linter.unusedSimpArgs false
set_option maxRecDepth 100000
def conZ : List Value := [.int .i64 0, .int .i64 0, .int .i64 0, .int .i64 0, .int .i64 0, .string (⟨#[]⟩ : ByteArray), .int .i64 0, .bool false, .bool false, .bool false, .int .i64 0, .string (⟨#[]⟩ : ByteArray), .slice none 0 0, .int .i64 0, .bool false, .int .i64 0, .int .i64 0, .int .i64 0, .int .i64 0, .bool false, .bool false, .int .i64 0, .int .i64 0, .int .i64 0, .int .i64 0]
def bP (x : Tup) : List Value := [.int .i64 x.ip, .int .i64 x.port, .int .i64 x.my]
def optL (x : Opt) : List Value := [.int .i64 x.mss, .int .i64 x.scale, .bool x.sack, .bool x.stamp, .int .i64 x.val, .int .i64 x.echo]
def conL (x : Con) (xV : Value) : List Value := [.int .i64 x.t.ip, .int .i64 x.t.port, .int .i64 x.t.my, .int .i64 x.state, .int .i64 x.s.una, .string x.s.data, .int .i64 x.s.sent, .bool x.s.fin, .bool x.s.finSent, .bool x.s.done, .int .i64 x.r.next, .string x.r.data, xV, .int .i64 x.r.fin, .bool x.r.done, .int .i64 x.window, .int .i64 x.most, .int .i64 x.o.mss, .int .i64 x.o.scale, .bool x.o.sack, .bool x.o.stamp, .int .i64 x.o.val, .int .i64 x.o.echo, .int .i64 x.timer, .int .i64 x.tries]
def segL (x : Seg) : List Value := [.int .i64 x.src, .int .i64 x.dst, .int .i64 x.seq, .int .i64 x.ack, .int .i64 x.flags, .int .i64 x.window, .int .i64 x.o.mss, .int .i64 x.o.scale, .bool x.o.sack, .bool x.o.stamp, .int .i64 x.o.val, .int .i64 x.o.echo, .string x.body]
def cW (x : Lim) : List Value := [.int .i64 x.halves, .int .i64 x.waiting, .int .i64 x.conns, .int .i64 x.chal]
def mrwL (x : Mrw) : List Value := [.string x.input, .int .i64 x.value]
@[simp] theorem bI : (⟨#[]⟩ : ByteArray).toList = [] := by rw [ByteArray.toList_eq]
end Go.Proofs.Ytfidgfddgmppdaa
