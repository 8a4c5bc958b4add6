/-
  No cell of these rows narrows 'for every input' (looked for: loops, veiled, ifaces, maps, wideKeys, modest, calm, conditions, laid).
  DERIVED. THE GIVEN ROWS OF THIS SEAT. 7 by the template 'for every input the law returns true; each argument reads behind the call as it read before'; 0 by the template 'total and deterministic' (their statements: YtnhpmgcllclhfaaTotals.lean).
  GIVEN WITH THE SEED: the statements are not yours to turn. If you find one false, say at which input.
  Laid BY PROGRAM, IN A SANDBOX (cutbox-rows.mjs): the forced cells as the released guide's own fill.sh prints them over the translation 404e237e8de3650f… (all of the seat's roots in one cut). By AI agents, Wed Nov 11 2026. No macro, syntax, notation, axiom, sorry.
-/
import Derived.Test.YtnhpmgcllclhfaaChecked
import GoSem.Claim
import GoSem.ClaimJoined
import GoSem.ClaimMapViews
import Derived.JoinedTies
import Derived.KernelRfl
namespace Go.Proofs.Ytnhpmgcllclhfaa
/- THE CELL 'sum', in the pinned program and in every row, IS THE sha256 OF THE DUMP (.gsa) THAT YtnhpmgcllclhfaaProg.lean LOADS. Nothing in Lean hashes anything: it is a label: what it is worth is what the hold of that sum in a sandbox is worth. -/
noncomputable def Try.pinned : Pinned := { name := "ytnhpmgcllclhfaa", sum := "404e237e8de3650f9ec7facb593c81983e29b25524218da0e337b136cca1ada1", checked := Try.checked }
namespace Rows
def none {H : Type} : Left H := { results := [], args := [] }

/-- 'laws.FnExactFindConn': WHATEVER THE INPUT: true; the input reads as it did. -/
def fnExactFindConnSpec : ChangeSpec := { name := "fnExactFindConn", fn := fun _ => fun
  | [d1, d2] => { results := [.lit (.bool true)], args := [d1, d2] }
  | _ => none }
def fnExactFindConnRow : OpenClaim := { program := "ytnhpmgcllclhfaa", sum := "404e237e8de3650f9ec7facb593c81983e29b25524218da0e337b136cca1ada1", func := "loop.example/g00504/laws.FnExactFindConn", spec := "fnExactFindConn", unfollowed := true, recurses := true, apart := false }
def FnExactFindConnSaid : Prop := fnExactFindConnRow.holds Try.pinned (OpenSpec.ofChange fnExactFindConnSpec)

/-- ITS FALSE NEIGHBOUR: 'it returns false'. Refute it at one input. -/
def fnExactFindConnWrong : ChangeSpec := { name := "fnExactFindConn", fn := fun _ => fun
  | [d1, d2] => { results := [.lit (.bool false)], args := [d1, d2] }
  | _ => none }
def FnExactFindConnWrongFalsely : Prop := fnExactFindConnRow.holds Try.pinned (OpenSpec.ofChange fnExactFindConnWrong)

/-- 'laws.FnExactSameTable': WHATEVER THE INPUT: true; the input reads as it did. -/
def fnExactSameTableSpec : ChangeSpec := { name := "fnExactSameTable", fn := fun _ => fun
  | [d1, d2] => { results := [.lit (.bool true)], args := [d1, d2] }
  | _ => none }
def fnExactSameTableRow : OpenClaim := { program := "ytnhpmgcllclhfaa", sum := "404e237e8de3650f9ec7facb593c81983e29b25524218da0e337b136cca1ada1", func := "loop.example/g00504/laws.FnExactSameTable", spec := "fnExactSameTable", unfollowed := true, recurses := true, apart := false }
def FnExactSameTableSaid : Prop := fnExactSameTableRow.holds Try.pinned (OpenSpec.ofChange fnExactSameTableSpec)

/-- ITS FALSE NEIGHBOUR: 'it returns false'. Refute it at one input. -/
def fnExactSameTableWrong : ChangeSpec := { name := "fnExactSameTable", fn := fun _ => fun
  | [d1, d2] => { results := [.lit (.bool false)], args := [d1, d2] }
  | _ => none }
def FnExactSameTableWrongFalsely : Prop := fnExactSameTableRow.holds Try.pinned (OpenSpec.ofChange fnExactSameTableWrong)

/-- 'laws.FnExactTableOk': WHATEVER THE INPUT: true; the input reads as it did. -/
def fnExactTableOkSpec : ChangeSpec := { name := "fnExactTableOk", fn := fun _ => fun
  | [d1, d2] => { results := [.lit (.bool true)], args := [d1, d2] }
  | _ => none }
def fnExactTableOkRow : OpenClaim := { program := "ytnhpmgcllclhfaa", sum := "404e237e8de3650f9ec7facb593c81983e29b25524218da0e337b136cca1ada1", func := "loop.example/g00504/laws.FnExactTableOk", spec := "fnExactTableOk", unfollowed := true, recurses := true, apart := false }
def FnExactTableOkSaid : Prop := fnExactTableOkRow.holds Try.pinned (OpenSpec.ofChange fnExactTableOkSpec)

/-- ITS FALSE NEIGHBOUR: 'it returns false'. Refute it at one input. -/
def fnExactTableOkWrong : ChangeSpec := { name := "fnExactTableOk", fn := fun _ => fun
  | [d1, d2] => { results := [.lit (.bool false)], args := [d1, d2] }
  | _ => none }
def FnExactTableOkWrongFalsely : Prop := fnExactTableOkRow.holds Try.pinned (OpenSpec.ofChange fnExactTableOkWrong)

/-- 'laws.FnExactTakeWaiting': WHATEVER THE INPUT: true; the input reads as it did. -/
def fnExactTakeWaitingSpec : ChangeSpec := { name := "fnExactTakeWaiting", fn := fun _ => fun
  | [d] => { results := [.lit (.bool true)], args := [d] }
  | _ => none }
def fnExactTakeWaitingRow : OpenClaim := { program := "ytnhpmgcllclhfaa", sum := "404e237e8de3650f9ec7facb593c81983e29b25524218da0e337b136cca1ada1", func := "loop.example/g00504/laws.FnExactTakeWaiting", spec := "fnExactTakeWaiting", apart := false }
def FnExactTakeWaitingSaid : Prop := fnExactTakeWaitingRow.holds Try.pinned (OpenSpec.ofChange fnExactTakeWaitingSpec)

/-- ITS FALSE NEIGHBOUR: 'it returns false'. Refute it at one input. -/
def fnExactTakeWaitingWrong : ChangeSpec := { name := "fnExactTakeWaiting", fn := fun _ => fun
  | [d] => { results := [.lit (.bool false)], args := [d] }
  | _ => none }
def FnExactTakeWaitingWrongFalsely : Prop := fnExactTakeWaitingRow.holds Try.pinned (OpenSpec.ofChange fnExactTakeWaitingWrong)

/-- 'laws.FnExactSetConn': WHATEVER THE INPUT: true; the input reads as it did. -/
def fnExactSetConnSpec : ChangeSpec := { name := "fnExactSetConn", fn := fun _ => fun
  | [d1, d2] => { results := [.lit (.bool true)], args := [d1, d2] }
  | _ => none }
def fnExactSetConnRow : OpenClaim := { program := "ytnhpmgcllclhfaa", sum := "404e237e8de3650f9ec7facb593c81983e29b25524218da0e337b136cca1ada1", func := "loop.example/g00504/laws.FnExactSetConn", spec := "fnExactSetConn", unfollowed := true, recurses := true, apart := false }
def FnExactSetConnSaid : Prop := fnExactSetConnRow.holds Try.pinned (OpenSpec.ofChange fnExactSetConnSpec)

/-- ITS FALSE NEIGHBOUR: 'it returns false'. Refute it at one input. -/
def fnExactSetConnWrong : ChangeSpec := { name := "fnExactSetConn", fn := fun _ => fun
  | [d1, d2] => { results := [.lit (.bool false)], args := [d1, d2] }
  | _ => none }
def FnExactSetConnWrongFalsely : Prop := fnExactSetConnRow.holds Try.pinned (OpenSpec.ofChange fnExactSetConnWrong)

/-- 'laws.FnExactSwept': WHATEVER THE INPUT: true; the input reads as it did. -/
def fnExactSweptSpec : ChangeSpec := { name := "fnExactSwept", fn := fun _ => fun
  | [d] => { results := [.lit (.bool true)], args := [d] }
  | _ => none }
def fnExactSweptRow : OpenClaim := { program := "ytnhpmgcllclhfaa", sum := "404e237e8de3650f9ec7facb593c81983e29b25524218da0e337b136cca1ada1", func := "loop.example/g00504/laws.FnExactSwept", spec := "fnExactSwept", unfollowed := true, recurses := true, apart := false }
def FnExactSweptSaid : Prop := fnExactSweptRow.holds Try.pinned (OpenSpec.ofChange fnExactSweptSpec)

/-- ITS FALSE NEIGHBOUR: 'it returns false'. Refute it at one input. -/
def fnExactSweptWrong : ChangeSpec := { name := "fnExactSwept", fn := fun _ => fun
  | [d] => { results := [.lit (.bool false)], args := [d] }
  | _ => none }
def FnExactSweptWrongFalsely : Prop := fnExactSweptRow.holds Try.pinned (OpenSpec.ofChange fnExactSweptWrong)

/-- 'laws.FnExactPutConn': WHATEVER THE INPUT: true; the input reads as it did. -/
def fnExactPutConnSpec : ChangeSpec := { name := "fnExactPutConn", fn := fun _ => fun
  | [d1, d2, d3] => { results := [.lit (.bool true)], args := [d1, d2, d3] }
  | _ => none }
def fnExactPutConnRow : OpenClaim := { program := "ytnhpmgcllclhfaa", sum := "404e237e8de3650f9ec7facb593c81983e29b25524218da0e337b136cca1ada1", func := "loop.example/g00504/laws.FnExactPutConn", spec := "fnExactPutConn", unfollowed := true, recurses := true, apart := false }
def FnExactPutConnSaid : Prop := fnExactPutConnRow.holds Try.pinned (OpenSpec.ofChange fnExactPutConnSpec)

/-- ITS FALSE NEIGHBOUR: 'it returns false'. Refute it at one input. -/
def fnExactPutConnWrong : ChangeSpec := { name := "fnExactPutConn", fn := fun _ => fun
  | [d1, d2, d3] => { results := [.lit (.bool false)], args := [d1, d2, d3] }
  | _ => none }
def FnExactPutConnWrongFalsely : Prop := fnExactPutConnRow.holds Try.pinned (OpenSpec.ofChange fnExactPutConnWrong)

/- THE SECOND FORM. 'bulk': how many values and letters a reading holds, each counted each time it is reached (what is shared counts as often as it is met; a slice's spare places count too). A statement '..UptoSaid' is the law's where the arguments, and the package variables that the reading takes, are together of bulk at most 1048576: NARROWER than '..Said'. Prove '..Said' where nothing that the law and all that it calls make is longer than what came in: it says more and counts as full. Else prove '..UptoSaid'. A law counts once. -/
mutual
def uptoBulk {H : Type} : DataW H → Nat
  | .lit (.string bytes) => bytes.length + 1
  | .lit _ => 1
  | .nil => 1
  | .ptr d => uptoBulk d + 1
  | .slice elems spare => uptoBulkAll elems + uptoBulkAll spare + 1
  | .agg parts => uptoBulkAll parts + 1
  | .iface _ d => uptoBulk d + 1
  | .map entries => uptoBulkEntries entries + 1
  | .held _ => 1
def uptoBulkAll {H : Type} : List (DataW H) → Nat
  | [] => 0
  | d :: r => uptoBulk d + uptoBulkAll r
def uptoBulkEntries {H : Type} : List (Lit × DataW H) → Nat
  | [] => 0
  | x :: r => uptoBulkEntry x + uptoBulkEntries r
def uptoBulkEntry {H : Type} : Lit × DataW H → Nat
  | (.string bytes, d) => bytes.length + uptoBulk d + 1
  | (_, d) => uptoBulk d + 1
 end
def uptoSmall : (H : Type) → List (DataW H) → Bool := fun _ ds => decide (uptoBulkAll ds ≤ 1048576)
def OpenSpec.upto (s : _root_.Go.ChangeSpec) : _root_.Go.OpenSpec := { _root_.Go.OpenSpec.ofChange s with cond := some uptoSmall }

/-- 'laws.FnExactFindConn', WHERE WHAT IT READS IS OF BULK AT MOST 1048576: true; the input reads as it did. -/
def fnExactFindConnUptoRow : OpenClaim := { program := "ytnhpmgcllclhfaa", sum := "404e237e8de3650f9ec7facb593c81983e29b25524218da0e337b136cca1ada1", func := "loop.example/g00504/laws.FnExactFindConn", spec := "fnExactFindConn", unfollowed := true, recurses := true, apart := false, narrowed := true }
def FnExactFindConnUptoSaid : Prop := fnExactFindConnUptoRow.holds Try.pinned (OpenSpec.upto fnExactFindConnSpec)

/-- 'laws.FnExactSameTable', WHERE WHAT IT READS IS OF BULK AT MOST 1048576: true; the input reads as it did. -/
def fnExactSameTableUptoRow : OpenClaim := { program := "ytnhpmgcllclhfaa", sum := "404e237e8de3650f9ec7facb593c81983e29b25524218da0e337b136cca1ada1", func := "loop.example/g00504/laws.FnExactSameTable", spec := "fnExactSameTable", unfollowed := true, recurses := true, apart := false, narrowed := true }
def FnExactSameTableUptoSaid : Prop := fnExactSameTableUptoRow.holds Try.pinned (OpenSpec.upto fnExactSameTableSpec)

/-- 'laws.FnExactTableOk', WHERE WHAT IT READS IS OF BULK AT MOST 1048576: true; the input reads as it did. -/
def fnExactTableOkUptoRow : OpenClaim := { program := "ytnhpmgcllclhfaa", sum := "404e237e8de3650f9ec7facb593c81983e29b25524218da0e337b136cca1ada1", func := "loop.example/g00504/laws.FnExactTableOk", spec := "fnExactTableOk", unfollowed := true, recurses := true, apart := false, narrowed := true }
def FnExactTableOkUptoSaid : Prop := fnExactTableOkUptoRow.holds Try.pinned (OpenSpec.upto fnExactTableOkSpec)

/-- 'laws.FnExactTakeWaiting', WHERE WHAT IT READS IS OF BULK AT MOST 1048576: true; the input reads as it did. -/
def fnExactTakeWaitingUptoRow : OpenClaim := { program := "ytnhpmgcllclhfaa", sum := "404e237e8de3650f9ec7facb593c81983e29b25524218da0e337b136cca1ada1", func := "loop.example/g00504/laws.FnExactTakeWaiting", spec := "fnExactTakeWaiting", apart := false, narrowed := true }
def FnExactTakeWaitingUptoSaid : Prop := fnExactTakeWaitingUptoRow.holds Try.pinned (OpenSpec.upto fnExactTakeWaitingSpec)

/-- 'laws.FnExactSetConn', WHERE WHAT IT READS IS OF BULK AT MOST 1048576: true; the input reads as it did. -/
def fnExactSetConnUptoRow : OpenClaim := { program := "ytnhpmgcllclhfaa", sum := "404e237e8de3650f9ec7facb593c81983e29b25524218da0e337b136cca1ada1", func := "loop.example/g00504/laws.FnExactSetConn", spec := "fnExactSetConn", unfollowed := true, recurses := true, apart := false, narrowed := true }
def FnExactSetConnUptoSaid : Prop := fnExactSetConnUptoRow.holds Try.pinned (OpenSpec.upto fnExactSetConnSpec)

/-- 'laws.FnExactSwept', WHERE WHAT IT READS IS OF BULK AT MOST 1048576: true; the input reads as it did. -/
def fnExactSweptUptoRow : OpenClaim := { program := "ytnhpmgcllclhfaa", sum := "404e237e8de3650f9ec7facb593c81983e29b25524218da0e337b136cca1ada1", func := "loop.example/g00504/laws.FnExactSwept", spec := "fnExactSwept", unfollowed := true, recurses := true, apart := false, narrowed := true }
def FnExactSweptUptoSaid : Prop := fnExactSweptUptoRow.holds Try.pinned (OpenSpec.upto fnExactSweptSpec)

/-- 'laws.FnExactPutConn', WHERE WHAT IT READS IS OF BULK AT MOST 1048576: true; the input reads as it did. -/
def fnExactPutConnUptoRow : OpenClaim := { program := "ytnhpmgcllclhfaa", sum := "404e237e8de3650f9ec7facb593c81983e29b25524218da0e337b136cca1ada1", func := "loop.example/g00504/laws.FnExactPutConn", spec := "fnExactPutConn", unfollowed := true, recurses := true, apart := false, narrowed := true }
def FnExactPutConnUptoSaid : Prop := fnExactPutConnUptoRow.holds Try.pinned (OpenSpec.upto fnExactPutConnSpec)

end Rows
end Go.Proofs.Ytnhpmgcllclhfaa
