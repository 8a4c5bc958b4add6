/-
  No cell of these rows narrows 'for every input' (looked for: loops, veiled, ifaces, maps, wideKeys, modest, calm, conditions, laid).
  DERIVED. THE GIVEN ROWS OF THIS SEAT. 5 by the template 'for every input the law returns true; each argument reads behind the call as it read before'; 0 by the template 'total and deterministic' (their statements: YtnmmhbhdcplfmaaTotals.lean).
  GIVEN WITH THE SEED: the statements are not yours to turn. If you find one false, say at which input.
  Laid BY PROGRAM, IN A SANDBOX (cutbox-rows.mjs): the forced cells as the released guide's own fill.sh prints them over the translation 49ec620f46577a68… (all of the seat's roots in one cut). By AI agents, Wed Nov 11 2026. No macro, syntax, notation, axiom, sorry.
-/
import Derived.Test.YtnmmhbhdcplfmaaChecked
import GoSem.Claim
import GoSem.ClaimJoined
import GoSem.ClaimMapViews
import Derived.JoinedTies
import Derived.KernelRfl
namespace Go.Proofs.Ytnmmhbhdcplfmaa
/- THE CELL 'sum', in the pinned program and in every row, IS THE sha256 OF THE DUMP (.gsa) THAT YtnmmhbhdcplfmaaProg.lean LOADS. Nothing in Lean hashes anything: it is a label: what it is worth is what the hold of that sum in a sandbox is worth. -/
noncomputable def Try.pinned : Pinned := { name := "ytnmmhbhdcplfmaa", sum := "49ec620f46577a68b13d08bb9d30af21d42de83f81fbd1fd7ee6ff00800956fb", checked := Try.checked }
namespace Rows
def none {H : Type} : Left H := { results := [], args := [] }

/-- 'laws.FnTakenIn': WHATEVER THE INPUT: true; the input reads as it did. -/
def fnTakenInSpec : ChangeSpec := { name := "fnTakenIn", fn := fun _ => fun
  | [d] => { results := [.lit (.bool true)], args := [d] }
  | _ => none }
def fnTakenInRow : OpenClaim := { program := "ytnmmhbhdcplfmaa", sum := "49ec620f46577a68b13d08bb9d30af21d42de83f81fbd1fd7ee6ff00800956fb", func := "loop.example/g00504/laws.FnTakenIn", spec := "fnTakenIn", apart := false }
def FnTakenInSaid : Prop := fnTakenInRow.holds Try.pinned (OpenSpec.ofChange fnTakenInSpec)

/-- ITS FALSE NEIGHBOUR: 'it returns false'. Refute it at one input. -/
def fnTakenInWrong : ChangeSpec := { name := "fnTakenIn", fn := fun _ => fun
  | [d] => { results := [.lit (.bool false)], args := [d] }
  | _ => none }
def FnTakenInWrongFalsely : Prop := fnTakenInRow.holds Try.pinned (OpenSpec.ofChange fnTakenInWrong)

/-- 'laws.FnTurned': WHATEVER THE INPUT: true; the input reads as it did. -/
def fnTurnedSpec : ChangeSpec := { name := "fnTurned", fn := fun _ => fun
  | [d] => { results := [.lit (.bool true)], args := [d] }
  | _ => none }
def fnTurnedRow : OpenClaim := { program := "ytnmmhbhdcplfmaa", sum := "49ec620f46577a68b13d08bb9d30af21d42de83f81fbd1fd7ee6ff00800956fb", func := "loop.example/g00504/laws.FnTurned", spec := "fnTurned", apart := false }
def FnTurnedSaid : Prop := fnTurnedRow.holds Try.pinned (OpenSpec.ofChange fnTurnedSpec)

/-- ITS FALSE NEIGHBOUR: 'it returns false'. Refute it at one input. -/
def fnTurnedWrong : ChangeSpec := { name := "fnTurned", fn := fun _ => fun
  | [d] => { results := [.lit (.bool false)], args := [d] }
  | _ => none }
def FnTurnedWrongFalsely : Prop := fnTurnedRow.holds Try.pinned (OpenSpec.ofChange fnTurnedWrong)

/-- 'laws.FnAcceptable': WHATEVER THE INPUT: true; the input reads as it did. -/
def fnAcceptableSpec : ChangeSpec := { name := "fnAcceptable", fn := fun _ => fun
  | [d] => { results := [.lit (.bool true)], args := [d] }
  | _ => none }
def fnAcceptableRow : OpenClaim := { program := "ytnmmhbhdcplfmaa", sum := "49ec620f46577a68b13d08bb9d30af21d42de83f81fbd1fd7ee6ff00800956fb", func := "loop.example/g00504/laws.FnAcceptable", spec := "fnAcceptable", apart := false }
def FnAcceptableSaid : Prop := fnAcceptableRow.holds Try.pinned (OpenSpec.ofChange fnAcceptableSpec)

/-- ITS FALSE NEIGHBOUR: 'it returns false'. Refute it at one input. -/
def fnAcceptableWrong : ChangeSpec := { name := "fnAcceptable", fn := fun _ => fun
  | [d] => { results := [.lit (.bool false)], args := [d] }
  | _ => none }
def FnAcceptableWrongFalsely : Prop := fnAcceptableRow.holds Try.pinned (OpenSpec.ofChange fnAcceptableWrong)

/-- 'laws.FnReceiver': WHATEVER THE INPUT: true; the input reads as it did. -/
def fnReceiverSpec : ChangeSpec := { name := "fnReceiver", fn := fun _ => fun
  | [d] => { results := [.lit (.bool true)], args := [d] }
  | _ => none }
def fnReceiverRow : OpenClaim := { program := "ytnmmhbhdcplfmaa", sum := "49ec620f46577a68b13d08bb9d30af21d42de83f81fbd1fd7ee6ff00800956fb", func := "loop.example/g00504/laws.FnReceiver", spec := "fnReceiver", unfollowed := true, recurses := true, apart := false }
def FnReceiverSaid : Prop := fnReceiverRow.holds Try.pinned (OpenSpec.ofChange fnReceiverSpec)

/-- ITS FALSE NEIGHBOUR: 'it returns false'. Refute it at one input. -/
def fnReceiverWrong : ChangeSpec := { name := "fnReceiver", fn := fun _ => fun
  | [d] => { results := [.lit (.bool false)], args := [d] }
  | _ => none }
def FnReceiverWrongFalsely : Prop := fnReceiverRow.holds Try.pinned (OpenSpec.ofChange fnReceiverWrong)

/-- 'laws.FnFirstWins': WHATEVER THE INPUT: true; the input reads as it did. -/
def fnFirstWinsSpec : ChangeSpec := { name := "fnFirstWins", fn := fun _ => fun
  | [d] => { results := [.lit (.bool true)], args := [d] }
  | _ => none }
def fnFirstWinsRow : OpenClaim := { program := "ytnmmhbhdcplfmaa", sum := "49ec620f46577a68b13d08bb9d30af21d42de83f81fbd1fd7ee6ff00800956fb", func := "loop.example/g00504/laws.FnFirstWins", spec := "fnFirstWins", unfollowed := true, recurses := true, apart := false }
def FnFirstWinsSaid : Prop := fnFirstWinsRow.holds Try.pinned (OpenSpec.ofChange fnFirstWinsSpec)

/-- ITS FALSE NEIGHBOUR: 'it returns false'. Refute it at one input. -/
def fnFirstWinsWrong : ChangeSpec := { name := "fnFirstWins", fn := fun _ => fun
  | [d] => { results := [.lit (.bool false)], args := [d] }
  | _ => none }
def FnFirstWinsWrongFalsely : Prop := fnFirstWinsRow.holds Try.pinned (OpenSpec.ofChange fnFirstWinsWrong)

/- THE SECOND FORM. 'bulk': how many values and letters a reading holds, each counted each time it is reached (what is shared counts as often as it is met; a slice's spare places count too). A statement '..UptoSaid' is the law's where the arguments, and the package variables that the reading takes, are together of bulk at most 1048576: NARROWER than '..Said'. Prove '..Said' where nothing that the law and all that it calls make is longer than what came in: it says more and counts as full. Else prove '..UptoSaid'. A law counts once. -/
mutual
def uptoBulk {H : Type} : DataW H → Nat
  | .lit (.string bytes) => bytes.length + 1
  | .lit _ => 1
  | .nil => 1
  | .ptr d => uptoBulk d + 1
  | .slice elems spare => uptoBulkAll elems + uptoBulkAll spare + 1
  | .agg parts => uptoBulkAll parts + 1
  | .iface _ d => uptoBulk d + 1
  | .map entries => uptoBulkEntries entries + 1
  | .held _ => 1
def uptoBulkAll {H : Type} : List (DataW H) → Nat
  | [] => 0
  | d :: r => uptoBulk d + uptoBulkAll r
def uptoBulkEntries {H : Type} : List (Lit × DataW H) → Nat
  | [] => 0
  | x :: r => uptoBulkEntry x + uptoBulkEntries r
def uptoBulkEntry {H : Type} : Lit × DataW H → Nat
  | (.string bytes, d) => bytes.length + uptoBulk d + 1
  | (_, d) => uptoBulk d + 1
 end
def uptoSmall : (H : Type) → List (DataW H) → Bool := fun _ ds => decide (uptoBulkAll ds ≤ 1048576)
def OpenSpec.upto (s : _root_.Go.ChangeSpec) : _root_.Go.OpenSpec := { _root_.Go.OpenSpec.ofChange s with cond := some uptoSmall }

/-- 'laws.FnTakenIn', WHERE WHAT IT READS IS OF BULK AT MOST 1048576: true; the input reads as it did. -/
def fnTakenInUptoRow : OpenClaim := { program := "ytnmmhbhdcplfmaa", sum := "49ec620f46577a68b13d08bb9d30af21d42de83f81fbd1fd7ee6ff00800956fb", func := "loop.example/g00504/laws.FnTakenIn", spec := "fnTakenIn", apart := false, narrowed := true }
def FnTakenInUptoSaid : Prop := fnTakenInUptoRow.holds Try.pinned (OpenSpec.upto fnTakenInSpec)

/-- 'laws.FnTurned', WHERE WHAT IT READS IS OF BULK AT MOST 1048576: true; the input reads as it did. -/
def fnTurnedUptoRow : OpenClaim := { program := "ytnmmhbhdcplfmaa", sum := "49ec620f46577a68b13d08bb9d30af21d42de83f81fbd1fd7ee6ff00800956fb", func := "loop.example/g00504/laws.FnTurned", spec := "fnTurned", apart := false, narrowed := true }
def FnTurnedUptoSaid : Prop := fnTurnedUptoRow.holds Try.pinned (OpenSpec.upto fnTurnedSpec)

/-- 'laws.FnAcceptable', WHERE WHAT IT READS IS OF BULK AT MOST 1048576: true; the input reads as it did. -/
def fnAcceptableUptoRow : OpenClaim := { program := "ytnmmhbhdcplfmaa", sum := "49ec620f46577a68b13d08bb9d30af21d42de83f81fbd1fd7ee6ff00800956fb", func := "loop.example/g00504/laws.FnAcceptable", spec := "fnAcceptable", apart := false, narrowed := true }
def FnAcceptableUptoSaid : Prop := fnAcceptableUptoRow.holds Try.pinned (OpenSpec.upto fnAcceptableSpec)

/-- 'laws.FnReceiver', WHERE WHAT IT READS IS OF BULK AT MOST 1048576: true; the input reads as it did. -/
def fnReceiverUptoRow : OpenClaim := { program := "ytnmmhbhdcplfmaa", sum := "49ec620f46577a68b13d08bb9d30af21d42de83f81fbd1fd7ee6ff00800956fb", func := "loop.example/g00504/laws.FnReceiver", spec := "fnReceiver", unfollowed := true, recurses := true, apart := false, narrowed := true }
def FnReceiverUptoSaid : Prop := fnReceiverUptoRow.holds Try.pinned (OpenSpec.upto fnReceiverSpec)

/-- 'laws.FnFirstWins', WHERE WHAT IT READS IS OF BULK AT MOST 1048576: true; the input reads as it did. -/
def fnFirstWinsUptoRow : OpenClaim := { program := "ytnmmhbhdcplfmaa", sum := "49ec620f46577a68b13d08bb9d30af21d42de83f81fbd1fd7ee6ff00800956fb", func := "loop.example/g00504/laws.FnFirstWins", spec := "fnFirstWins", unfollowed := true, recurses := true, apart := false, narrowed := true }
def FnFirstWinsUptoSaid : Prop := fnFirstWinsUptoRow.holds Try.pinned (OpenSpec.upto fnFirstWinsSpec)

end Rows
end Go.Proofs.Ytnmmhbhdcplfmaa
