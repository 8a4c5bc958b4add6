/-
  No cell of these rows narrows 'for every input' (looked for: loops, veiled, ifaces, maps, wideKeys, modest, calm, conditions, laid).
  DERIVED. THE GIVEN ROWS OF THIS SEAT. 12 by the template 'for every input the law returns true; each argument reads behind the call as it read before'; 0 by the template 'total and deterministic' (their statements: YtjfamgkkenccdaaTotals.lean).
  GIVEN WITH THE SEED: the statements are not yours to turn. If you find one false, say at which input.
  Laid BY PROGRAM, IN A SANDBOX (cutbox-rows.mjs): the forced cells as the released guide's own fill.sh prints them over the translation b6ba6ae13b32f153… (all of the seat's roots in one cut). By AI agents, Wed Nov 11 2026. No macro, syntax, notation, axiom, sorry.
-/
import Derived.Test.YtjfamgkkenccdaaChecked
import GoSem.Claim
import GoSem.ClaimJoined
import GoSem.ClaimMapViews
import Derived.JoinedTies
import Derived.KernelRfl
namespace Go.Proofs.Ytjfamgkkenccdaa
/- THE CELL 'sum', in the pinned program and in every row, IS THE sha256 OF THE DUMP (.gsa) THAT YtjfamgkkenccdaaProg.lean LOADS. Nothing in Lean hashes anything: it is a label: what it is worth is what the hold of that sum in a sandbox is worth. -/
noncomputable def Try.pinned : Pinned := { name := "ytjfamgkkenccdaa", sum := "b6ba6ae13b32f15304b2efc3fbcf3ec1fc189d2bc1fc63d25cd0a8d701f3d383", checked := Try.checked }
namespace Rows
def none {H : Type} : Left H := { results := [], args := [] }

/-- 'laws.FnExactUnsent': WHATEVER THE INPUT: true; the input reads as it did. -/
def fnExactUnsentSpec : ChangeSpec := { name := "fnExactUnsent", fn := fun _ => fun
  | [d] => { results := [.lit (.bool true)], args := [d] }
  | _ => none }
def fnExactUnsentRow : OpenClaim := { program := "ytjfamgkkenccdaa", sum := "b6ba6ae13b32f15304b2efc3fbcf3ec1fc189d2bc1fc63d25cd0a8d701f3d383", func := "loop.example/g00504/laws.FnExactUnsent", spec := "fnExactUnsent", apart := false }
def FnExactUnsentSaid : Prop := fnExactUnsentRow.holds Try.pinned (OpenSpec.ofChange fnExactUnsentSpec)

/-- ITS FALSE NEIGHBOUR: 'it returns false'. Refute it at one input. -/
def fnExactUnsentWrong : ChangeSpec := { name := "fnExactUnsent", fn := fun _ => fun
  | [d] => { results := [.lit (.bool false)], args := [d] }
  | _ => none }
def FnExactUnsentWrongFalsely : Prop := fnExactUnsentRow.holds Try.pinned (OpenSpec.ofChange fnExactUnsentWrong)

/-- 'laws.FnExactVerdict': WHATEVER THE INPUT: true; the input reads as it did. -/
def fnExactVerdictSpec : ChangeSpec := { name := "fnExactVerdict", fn := fun _ => fun
  | [d1, d2] => { results := [.lit (.bool true)], args := [d1, d2] }
  | _ => none }
def fnExactVerdictRow : OpenClaim := { program := "ytjfamgkkenccdaa", sum := "b6ba6ae13b32f15304b2efc3fbcf3ec1fc189d2bc1fc63d25cd0a8d701f3d383", func := "loop.example/g00504/laws.FnExactVerdict", spec := "fnExactVerdict", apart := false }
def FnExactVerdictSaid : Prop := fnExactVerdictRow.holds Try.pinned (OpenSpec.ofChange fnExactVerdictSpec)

/-- ITS FALSE NEIGHBOUR: 'it returns false'. Refute it at one input. -/
def fnExactVerdictWrong : ChangeSpec := { name := "fnExactVerdict", fn := fun _ => fun
  | [d1, d2] => { results := [.lit (.bool false)], args := [d1, d2] }
  | _ => none }
def FnExactVerdictWrongFalsely : Prop := fnExactVerdictRow.holds Try.pinned (OpenSpec.ofChange fnExactVerdictWrong)

/-- 'laws.FnExactResetFor': WHATEVER THE INPUT: true; the input reads as it did. -/
def fnExactResetForSpec : ChangeSpec := { name := "fnExactResetFor", fn := fun _ => fun
  | [d] => { results := [.lit (.bool true)], args := [d] }
  | _ => none }
def fnExactResetForRow : OpenClaim := { program := "ytjfamgkkenccdaa", sum := "b6ba6ae13b32f15304b2efc3fbcf3ec1fc189d2bc1fc63d25cd0a8d701f3d383", func := "loop.example/g00504/laws.FnExactResetFor", spec := "fnExactResetFor", apart := false }
def FnExactResetForSaid : Prop := fnExactResetForRow.holds Try.pinned (OpenSpec.ofChange fnExactResetForSpec)

/-- ITS FALSE NEIGHBOUR: 'it returns false'. Refute it at one input. -/
def fnExactResetForWrong : ChangeSpec := { name := "fnExactResetFor", fn := fun _ => fun
  | [d] => { results := [.lit (.bool false)], args := [d] }
  | _ => none }
def FnExactResetForWrongFalsely : Prop := fnExactResetForRow.holds Try.pinned (OpenSpec.ofChange fnExactResetForWrong)

/-- 'laws.FnExactHalvesOk': WHATEVER THE INPUT: true; the input reads as it did. -/
def fnExactHalvesOkSpec : ChangeSpec := { name := "fnExactHalvesOk", fn := fun _ => fun
  | [d] => { results := [.lit (.bool true)], args := [d] }
  | _ => none }
def fnExactHalvesOkRow : OpenClaim := { program := "ytjfamgkkenccdaa", sum := "b6ba6ae13b32f15304b2efc3fbcf3ec1fc189d2bc1fc63d25cd0a8d701f3d383", func := "loop.example/g00504/laws.FnExactHalvesOk", spec := "fnExactHalvesOk", unfollowed := true, recurses := true, apart := false }
def FnExactHalvesOkSaid : Prop := fnExactHalvesOkRow.holds Try.pinned (OpenSpec.ofChange fnExactHalvesOkSpec)

/-- ITS FALSE NEIGHBOUR: 'it returns false'. Refute it at one input. -/
def fnExactHalvesOkWrong : ChangeSpec := { name := "fnExactHalvesOk", fn := fun _ => fun
  | [d] => { results := [.lit (.bool false)], args := [d] }
  | _ => none }
def FnExactHalvesOkWrongFalsely : Prop := fnExactHalvesOkRow.holds Try.pinned (OpenSpec.ofChange fnExactHalvesOkWrong)

/-- 'laws.FnExactTurned': WHATEVER THE INPUT: true; the input reads as it did. -/
def fnExactTurnedSpec : ChangeSpec := { name := "fnExactTurned", fn := fun _ => fun
  | [d] => { results := [.lit (.bool true)], args := [d] }
  | _ => none }
def fnExactTurnedRow : OpenClaim := { program := "ytjfamgkkenccdaa", sum := "b6ba6ae13b32f15304b2efc3fbcf3ec1fc189d2bc1fc63d25cd0a8d701f3d383", func := "loop.example/g00504/laws.FnExactTurned", spec := "fnExactTurned", apart := false }
def FnExactTurnedSaid : Prop := fnExactTurnedRow.holds Try.pinned (OpenSpec.ofChange fnExactTurnedSpec)

/-- ITS FALSE NEIGHBOUR: 'it returns false'. Refute it at one input. -/
def fnExactTurnedWrong : ChangeSpec := { name := "fnExactTurned", fn := fun _ => fun
  | [d] => { results := [.lit (.bool false)], args := [d] }
  | _ => none }
def FnExactTurnedWrongFalsely : Prop := fnExactTurnedRow.holds Try.pinned (OpenSpec.ofChange fnExactTurnedWrong)

/-- 'laws.FnExactAbort': WHATEVER THE INPUT: true; the input reads as it did. -/
def fnExactAbortSpec : ChangeSpec := { name := "fnExactAbort", fn := fun _ => fun
  | [d] => { results := [.lit (.bool true)], args := [d] }
  | _ => none }
def fnExactAbortRow : OpenClaim := { program := "ytjfamgkkenccdaa", sum := "b6ba6ae13b32f15304b2efc3fbcf3ec1fc189d2bc1fc63d25cd0a8d701f3d383", func := "loop.example/g00504/laws.FnExactAbort", spec := "fnExactAbort", apart := false }
def FnExactAbortSaid : Prop := fnExactAbortRow.holds Try.pinned (OpenSpec.ofChange fnExactAbortSpec)

/-- ITS FALSE NEIGHBOUR: 'it returns false'. Refute it at one input. -/
def fnExactAbortWrong : ChangeSpec := { name := "fnExactAbort", fn := fun _ => fun
  | [d] => { results := [.lit (.bool false)], args := [d] }
  | _ => none }
def FnExactAbortWrongFalsely : Prop := fnExactAbortRow.holds Try.pinned (OpenSpec.ofChange fnExactAbortWrong)

/-- 'laws.FnExactReadConn': WHATEVER THE INPUT: true; the input reads as it did. -/
def fnExactReadConnSpec : ChangeSpec := { name := "fnExactReadConn", fn := fun _ => fun
  | [d1, d2] => { results := [.lit (.bool true)], args := [d1, d2] }
  | _ => none }
def fnExactReadConnRow : OpenClaim := { program := "ytjfamgkkenccdaa", sum := "b6ba6ae13b32f15304b2efc3fbcf3ec1fc189d2bc1fc63d25cd0a8d701f3d383", func := "loop.example/g00504/laws.FnExactReadConn", spec := "fnExactReadConn", apart := false }
def FnExactReadConnSaid : Prop := fnExactReadConnRow.holds Try.pinned (OpenSpec.ofChange fnExactReadConnSpec)

/-- ITS FALSE NEIGHBOUR: 'it returns false'. Refute it at one input. -/
def fnExactReadConnWrong : ChangeSpec := { name := "fnExactReadConn", fn := fun _ => fun
  | [d1, d2] => { results := [.lit (.bool false)], args := [d1, d2] }
  | _ => none }
def FnExactReadConnWrongFalsely : Prop := fnExactReadConnRow.holds Try.pinned (OpenSpec.ofChange fnExactReadConnWrong)

/-- 'laws.FnExactPump': WHATEVER THE INPUT: true; the input reads as it did. -/
def fnExactPumpSpec : ChangeSpec := { name := "fnExactPump", fn := fun _ => fun
  | [d1, d2] => { results := [.lit (.bool true)], args := [d1, d2] }
  | _ => none }
def fnExactPumpRow : OpenClaim := { program := "ytjfamgkkenccdaa", sum := "b6ba6ae13b32f15304b2efc3fbcf3ec1fc189d2bc1fc63d25cd0a8d701f3d383", func := "loop.example/g00504/laws.FnExactPump", spec := "fnExactPump", apart := false }
def FnExactPumpSaid : Prop := fnExactPumpRow.holds Try.pinned (OpenSpec.ofChange fnExactPumpSpec)

/-- ITS FALSE NEIGHBOUR: 'it returns false'. Refute it at one input. -/
def fnExactPumpWrong : ChangeSpec := { name := "fnExactPump", fn := fun _ => fun
  | [d1, d2] => { results := [.lit (.bool false)], args := [d1, d2] }
  | _ => none }
def FnExactPumpWrongFalsely : Prop := fnExactPumpRow.holds Try.pinned (OpenSpec.ofChange fnExactPumpWrong)

/-- 'laws.FnExactShut': WHATEVER THE INPUT: true; the input reads as it did. -/
def fnExactShutSpec : ChangeSpec := { name := "fnExactShut", fn := fun _ => fun
  | [d] => { results := [.lit (.bool true)], args := [d] }
  | _ => none }
def fnExactShutRow : OpenClaim := { program := "ytjfamgkkenccdaa", sum := "b6ba6ae13b32f15304b2efc3fbcf3ec1fc189d2bc1fc63d25cd0a8d701f3d383", func := "loop.example/g00504/laws.FnExactShut", spec := "fnExactShut", apart := false }
def FnExactShutSaid : Prop := fnExactShutRow.holds Try.pinned (OpenSpec.ofChange fnExactShutSpec)

/-- ITS FALSE NEIGHBOUR: 'it returns false'. Refute it at one input. -/
def fnExactShutWrong : ChangeSpec := { name := "fnExactShut", fn := fun _ => fun
  | [d] => { results := [.lit (.bool false)], args := [d] }
  | _ => none }
def FnExactShutWrongFalsely : Prop := fnExactShutRow.holds Try.pinned (OpenSpec.ofChange fnExactShutWrong)

/-- 'laws.FnExactWrite': WHATEVER THE INPUT: true; the input reads as it did. -/
def fnExactWriteSpec : ChangeSpec := { name := "fnExactWrite", fn := fun _ => fun
  | [d1, d2] => { results := [.lit (.bool true)], args := [d1, d2] }
  | _ => none }
def fnExactWriteRow : OpenClaim := { program := "ytjfamgkkenccdaa", sum := "b6ba6ae13b32f15304b2efc3fbcf3ec1fc189d2bc1fc63d25cd0a8d701f3d383", func := "loop.example/g00504/laws.FnExactWrite", spec := "fnExactWrite", apart := false }
def FnExactWriteSaid : Prop := fnExactWriteRow.holds Try.pinned (OpenSpec.ofChange fnExactWriteSpec)

/-- ITS FALSE NEIGHBOUR: 'it returns false'. Refute it at one input. -/
def fnExactWriteWrong : ChangeSpec := { name := "fnExactWrite", fn := fun _ => fun
  | [d1, d2] => { results := [.lit (.bool false)], args := [d1, d2] }
  | _ => none }
def FnExactWriteWrongFalsely : Prop := fnExactWriteRow.holds Try.pinned (OpenSpec.ofChange fnExactWriteWrong)

/-- 'laws.FnExactTickConn': WHATEVER THE INPUT: true; the input reads as it did. -/
def fnExactTickConnSpec : ChangeSpec := { name := "fnExactTickConn", fn := fun _ => fun
  | [d] => { results := [.lit (.bool true)], args := [d] }
  | _ => none }
def fnExactTickConnRow : OpenClaim := { program := "ytjfamgkkenccdaa", sum := "b6ba6ae13b32f15304b2efc3fbcf3ec1fc189d2bc1fc63d25cd0a8d701f3d383", func := "loop.example/g00504/laws.FnExactTickConn", spec := "fnExactTickConn", apart := false }
def FnExactTickConnSaid : Prop := fnExactTickConnRow.holds Try.pinned (OpenSpec.ofChange fnExactTickConnSpec)

/-- ITS FALSE NEIGHBOUR: 'it returns false'. Refute it at one input. -/
def fnExactTickConnWrong : ChangeSpec := { name := "fnExactTickConn", fn := fun _ => fun
  | [d] => { results := [.lit (.bool false)], args := [d] }
  | _ => none }
def FnExactTickConnWrongFalsely : Prop := fnExactTickConnRow.holds Try.pinned (OpenSpec.ofChange fnExactTickConnWrong)

/-- 'laws.FnExactHeard': WHATEVER THE INPUT: true; the input reads as it did. -/
def fnExactHeardSpec : ChangeSpec := { name := "fnExactHeard", fn := fun _ => fun
  | [d1, d2] => { results := [.lit (.bool true)], args := [d1, d2] }
  | _ => none }
def fnExactHeardRow : OpenClaim := { program := "ytjfamgkkenccdaa", sum := "b6ba6ae13b32f15304b2efc3fbcf3ec1fc189d2bc1fc63d25cd0a8d701f3d383", func := "loop.example/g00504/laws.FnExactHeard", spec := "fnExactHeard", unfollowed := true, recurses := true, apart := false }
def FnExactHeardSaid : Prop := fnExactHeardRow.holds Try.pinned (OpenSpec.ofChange fnExactHeardSpec)

/-- ITS FALSE NEIGHBOUR: 'it returns false'. Refute it at one input. -/
def fnExactHeardWrong : ChangeSpec := { name := "fnExactHeard", fn := fun _ => fun
  | [d1, d2] => { results := [.lit (.bool false)], args := [d1, d2] }
  | _ => none }
def FnExactHeardWrongFalsely : Prop := fnExactHeardRow.holds Try.pinned (OpenSpec.ofChange fnExactHeardWrong)

/- THE SECOND FORM. 'bulk': how many values and letters a reading holds, each counted each time it is reached (what is shared counts as often as it is met; a slice's spare places count too). A statement '..UptoSaid' is the law's where the arguments, and the package variables that the reading takes, are together of bulk at most 1048576: NARROWER than '..Said'. Prove '..Said' where nothing that the law and all that it calls make is longer than what came in: it says more and counts as full. Else prove '..UptoSaid'. A law counts once. -/
mutual
def uptoBulk {H : Type} : DataW H → Nat
  | .lit (.string bytes) => bytes.length + 1
  | .lit _ => 1
  | .nil => 1
  | .ptr d => uptoBulk d + 1
  | .slice elems spare => uptoBulkAll elems + uptoBulkAll spare + 1
  | .agg parts => uptoBulkAll parts + 1
  | .iface _ d => uptoBulk d + 1
  | .map entries => uptoBulkEntries entries + 1
  | .held _ => 1
def uptoBulkAll {H : Type} : List (DataW H) → Nat
  | [] => 0
  | d :: r => uptoBulk d + uptoBulkAll r
def uptoBulkEntries {H : Type} : List (Lit × DataW H) → Nat
  | [] => 0
  | x :: r => uptoBulkEntry x + uptoBulkEntries r
def uptoBulkEntry {H : Type} : Lit × DataW H → Nat
  | (.string bytes, d) => bytes.length + uptoBulk d + 1
  | (_, d) => uptoBulk d + 1
 end
def uptoSmall : (H : Type) → List (DataW H) → Bool := fun _ ds => decide (uptoBulkAll ds ≤ 1048576)
def OpenSpec.upto (s : _root_.Go.ChangeSpec) : _root_.Go.OpenSpec := { _root_.Go.OpenSpec.ofChange s with cond := some uptoSmall }

/-- 'laws.FnExactUnsent', WHERE WHAT IT READS IS OF BULK AT MOST 1048576: true; the input reads as it did. -/
def fnExactUnsentUptoRow : OpenClaim := { program := "ytjfamgkkenccdaa", sum := "b6ba6ae13b32f15304b2efc3fbcf3ec1fc189d2bc1fc63d25cd0a8d701f3d383", func := "loop.example/g00504/laws.FnExactUnsent", spec := "fnExactUnsent", apart := false, narrowed := true }
def FnExactUnsentUptoSaid : Prop := fnExactUnsentUptoRow.holds Try.pinned (OpenSpec.upto fnExactUnsentSpec)

/-- 'laws.FnExactVerdict', WHERE WHAT IT READS IS OF BULK AT MOST 1048576: true; the input reads as it did. -/
def fnExactVerdictUptoRow : OpenClaim := { program := "ytjfamgkkenccdaa", sum := "b6ba6ae13b32f15304b2efc3fbcf3ec1fc189d2bc1fc63d25cd0a8d701f3d383", func := "loop.example/g00504/laws.FnExactVerdict", spec := "fnExactVerdict", apart := false, narrowed := true }
def FnExactVerdictUptoSaid : Prop := fnExactVerdictUptoRow.holds Try.pinned (OpenSpec.upto fnExactVerdictSpec)

/-- 'laws.FnExactResetFor', WHERE WHAT IT READS IS OF BULK AT MOST 1048576: true; the input reads as it did. -/
def fnExactResetForUptoRow : OpenClaim := { program := "ytjfamgkkenccdaa", sum := "b6ba6ae13b32f15304b2efc3fbcf3ec1fc189d2bc1fc63d25cd0a8d701f3d383", func := "loop.example/g00504/laws.FnExactResetFor", spec := "fnExactResetFor", apart := false, narrowed := true }
def FnExactResetForUptoSaid : Prop := fnExactResetForUptoRow.holds Try.pinned (OpenSpec.upto fnExactResetForSpec)

/-- 'laws.FnExactHalvesOk', WHERE WHAT IT READS IS OF BULK AT MOST 1048576: true; the input reads as it did. -/
def fnExactHalvesOkUptoRow : OpenClaim := { program := "ytjfamgkkenccdaa", sum := "b6ba6ae13b32f15304b2efc3fbcf3ec1fc189d2bc1fc63d25cd0a8d701f3d383", func := "loop.example/g00504/laws.FnExactHalvesOk", spec := "fnExactHalvesOk", unfollowed := true, recurses := true, apart := false, narrowed := true }
def FnExactHalvesOkUptoSaid : Prop := fnExactHalvesOkUptoRow.holds Try.pinned (OpenSpec.upto fnExactHalvesOkSpec)

/-- 'laws.FnExactTurned', WHERE WHAT IT READS IS OF BULK AT MOST 1048576: true; the input reads as it did. -/
def fnExactTurnedUptoRow : OpenClaim := { program := "ytjfamgkkenccdaa", sum := "b6ba6ae13b32f15304b2efc3fbcf3ec1fc189d2bc1fc63d25cd0a8d701f3d383", func := "loop.example/g00504/laws.FnExactTurned", spec := "fnExactTurned", apart := false, narrowed := true }
def FnExactTurnedUptoSaid : Prop := fnExactTurnedUptoRow.holds Try.pinned (OpenSpec.upto fnExactTurnedSpec)

/-- 'laws.FnExactAbort', WHERE WHAT IT READS IS OF BULK AT MOST 1048576: true; the input reads as it did. -/
def fnExactAbortUptoRow : OpenClaim := { program := "ytjfamgkkenccdaa", sum := "b6ba6ae13b32f15304b2efc3fbcf3ec1fc189d2bc1fc63d25cd0a8d701f3d383", func := "loop.example/g00504/laws.FnExactAbort", spec := "fnExactAbort", apart := false, narrowed := true }
def FnExactAbortUptoSaid : Prop := fnExactAbortUptoRow.holds Try.pinned (OpenSpec.upto fnExactAbortSpec)

/-- 'laws.FnExactReadConn', WHERE WHAT IT READS IS OF BULK AT MOST 1048576: true; the input reads as it did. -/
def fnExactReadConnUptoRow : OpenClaim := { program := "ytjfamgkkenccdaa", sum := "b6ba6ae13b32f15304b2efc3fbcf3ec1fc189d2bc1fc63d25cd0a8d701f3d383", func := "loop.example/g00504/laws.FnExactReadConn", spec := "fnExactReadConn", apart := false, narrowed := true }
def FnExactReadConnUptoSaid : Prop := fnExactReadConnUptoRow.holds Try.pinned (OpenSpec.upto fnExactReadConnSpec)

/-- 'laws.FnExactPump', WHERE WHAT IT READS IS OF BULK AT MOST 1048576: true; the input reads as it did. -/
def fnExactPumpUptoRow : OpenClaim := { program := "ytjfamgkkenccdaa", sum := "b6ba6ae13b32f15304b2efc3fbcf3ec1fc189d2bc1fc63d25cd0a8d701f3d383", func := "loop.example/g00504/laws.FnExactPump", spec := "fnExactPump", apart := false, narrowed := true }
def FnExactPumpUptoSaid : Prop := fnExactPumpUptoRow.holds Try.pinned (OpenSpec.upto fnExactPumpSpec)

/-- 'laws.FnExactShut', WHERE WHAT IT READS IS OF BULK AT MOST 1048576: true; the input reads as it did. -/
def fnExactShutUptoRow : OpenClaim := { program := "ytjfamgkkenccdaa", sum := "b6ba6ae13b32f15304b2efc3fbcf3ec1fc189d2bc1fc63d25cd0a8d701f3d383", func := "loop.example/g00504/laws.FnExactShut", spec := "fnExactShut", apart := false, narrowed := true }
def FnExactShutUptoSaid : Prop := fnExactShutUptoRow.holds Try.pinned (OpenSpec.upto fnExactShutSpec)

/-- 'laws.FnExactWrite', WHERE WHAT IT READS IS OF BULK AT MOST 1048576: true; the input reads as it did. -/
def fnExactWriteUptoRow : OpenClaim := { program := "ytjfamgkkenccdaa", sum := "b6ba6ae13b32f15304b2efc3fbcf3ec1fc189d2bc1fc63d25cd0a8d701f3d383", func := "loop.example/g00504/laws.FnExactWrite", spec := "fnExactWrite", apart := false, narrowed := true }
def FnExactWriteUptoSaid : Prop := fnExactWriteUptoRow.holds Try.pinned (OpenSpec.upto fnExactWriteSpec)

/-- 'laws.FnExactTickConn', WHERE WHAT IT READS IS OF BULK AT MOST 1048576: true; the input reads as it did. -/
def fnExactTickConnUptoRow : OpenClaim := { program := "ytjfamgkkenccdaa", sum := "b6ba6ae13b32f15304b2efc3fbcf3ec1fc189d2bc1fc63d25cd0a8d701f3d383", func := "loop.example/g00504/laws.FnExactTickConn", spec := "fnExactTickConn", apart := false, narrowed := true }
def FnExactTickConnUptoSaid : Prop := fnExactTickConnUptoRow.holds Try.pinned (OpenSpec.upto fnExactTickConnSpec)

/-- 'laws.FnExactHeard', WHERE WHAT IT READS IS OF BULK AT MOST 1048576: true; the input reads as it did. -/
def fnExactHeardUptoRow : OpenClaim := { program := "ytjfamgkkenccdaa", sum := "b6ba6ae13b32f15304b2efc3fbcf3ec1fc189d2bc1fc63d25cd0a8d701f3d383", func := "loop.example/g00504/laws.FnExactHeard", spec := "fnExactHeard", unfollowed := true, recurses := true, apart := false, narrowed := true }
def FnExactHeardUptoSaid : Prop := fnExactHeardUptoRow.holds Try.pinned (OpenSpec.upto fnExactHeardSpec)

end Rows
end Go.Proofs.Ytjfamgkkenccdaa
