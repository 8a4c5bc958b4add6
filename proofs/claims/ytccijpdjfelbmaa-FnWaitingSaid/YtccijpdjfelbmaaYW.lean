/- Contracts (YW). -/
import Derived.Test.YtccijpdjfelbmaaG1
namespace Go.Proofs.Ytccijpdjfelbmaa
open Go.RowKit
set_option linter.unusedVariables false
set_option linter.unusedSimpArgs false
set_option maxRecDepth 100000
def ce : List Value := [.int .i64 0, .int .i64 0, .int .i64 0, .int .i64 0, .int .i64 0, .string (⟨#[]⟩ : ByteArray), .int .i64 0, .bool false, .bool false, .bool false, .int .i64 0, .string (⟨#[]⟩ : ByteArray), .slice none 0 0, .int .i64 0, .bool false, .int .i64 0, .int .i64 0, .int .i64 0, .int .i64 0, .bool false, .bool false, .int .i64 0, .int .i64 0, .int .i64 0, .int .i64 0]
def eV : List Value := [.int .i64 0, .string (⟨#[]⟩ : ByteArray), .slice none 0 0, .int .i64 0, .bool false]
def eb : List Value := [.int .i64 0, .int .i64 0, .int .i64 0, .int .i64 0, .int .i64 0, .int .i64 0, .int .i64 0, .int .i64 0, .bool false, .bool false, .int .i64 0, .int .i64 0, .string (⟨#[]⟩ : ByteArray)]
def sndZ : List Value := [.int .i64 0, .string (⟨#[]⟩ : ByteArray), .int .i64 0, .bool false, .bool false, .bool false]
def bV (x : Tup) : List Value := [.int .i64 x.ip, .int .i64 x.port, .int .i64 x.my]
def dI (x : Opt) : List Value := [.int .i64 x.mss, .int .i64 x.scale, .bool x.sack, .bool x.stamp, .int .i64 x.val, .int .i64 x.echo]
def am (x : Snd) : List Value := [.int .i64 x.una, .string x.data, .int .i64 x.sent, .bool x.fin, .bool x.finSent, .bool x.done]
def bN (x : Chk) : List Value := [.int .i64 x.seq, .string x.text, .bool x.fin]
def pceL (x : Pce) : List Value := [.int .i64 x.off, .string x.text]
def ab (x : Rcv) (x_heldV : Value) : List Value := [.int .i64 x.next, .string x.data, x_heldV, .int .i64 x.fin, .bool x.done]
def a6 (x : Con) (xV : Value) : List Value := [.int .i64 x.t.ip, .int .i64 x.t.port, .int .i64 x.t.my, .int .i64 x.state, .int .i64 x.s.una, .string x.s.data, .int .i64 x.s.sent, .bool x.s.fin, .bool x.s.finSent, .bool x.s.done, .int .i64 x.r.next, .string x.r.data, xV, .int .i64 x.r.fin, .bool x.r.done, .int .i64 x.window, .int .i64 x.most, .int .i64 x.o.mss, .int .i64 x.o.scale, .bool x.o.sack, .bool x.o.stamp, .int .i64 x.o.val, .int .i64 x.o.echo, .int .i64 x.timer, .int .i64 x.tries]
def bE (x : Seg) : List Value := [.int .i64 x.src, .int .i64 x.dst, .int .i64 x.seq, .int .i64 x.ack, .int .i64 x.flags, .int .i64 x.window, .int .i64 x.o.mss, .int .i64 x.o.scale, .bool x.o.sack, .bool x.o.stamp, .int .i64 x.o.val, .int .i64 x.o.echo, .string x.body]
def bA (x : Lim) : List Value := [.int .i64 x.halves, .int .i64 x.waiting, .int .i64 x.conns, .int .i64 x.chal]
@[simp] theorem bD : (⟨#[]⟩ : ByteArray).toList = [] := by rw [ByteArray.toList_eq]
end Go.Proofs.Ytccijpdjfelbmaa
