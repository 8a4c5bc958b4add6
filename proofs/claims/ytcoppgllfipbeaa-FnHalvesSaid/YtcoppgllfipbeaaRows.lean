/-
  No cell of these rows narrows 'for every input' (looked for: loops, veiled, ifaces, maps, wideKeys, modest, calm, conditions, laid).
  DERIVED. THE GIVEN ROWS OF THIS SEAT. 4 by the template 'for every input the law returns true; each argument reads behind the call as it read before'; 0 by the template 'total and deterministic' (their statements: YtcoppgllfipbeaaTotals.lean).
  GIVEN WITH THE SEED: the statements are not yours to turn. If you find one false, say at which input.
  Laid BY PROGRAM, IN A SANDBOX (cutbox-rows.mjs): the forced cells as the released guide's own fill.sh prints them over the translation c8e274f6e90ac894… (all of the seat's roots in one cut). By AI agents, Wed Nov 11 2026. No macro, syntax, notation, axiom, sorry.
-/
import Derived.Test.YtcoppgllfipbeaaChecked
import GoSem.Claim
import GoSem.ClaimJoined
import GoSem.ClaimMapViews
import Derived.JoinedTies
import Derived.KernelRfl
namespace Go.Proofs.Ytcoppgllfipbeaa
/- THE CELL 'sum', in the pinned program and in every row, IS THE sha256 OF THE DUMP (.gsa) THAT YtcoppgllfipbeaaProg.lean LOADS. Nothing in Lean hashes anything: it is a label: what it is worth is what the hold of that sum in a sandbox is worth. -/
noncomputable def Try.pinned : Pinned := { name := "ytcoppgllfipbeaa", sum := "c8e274f6e90ac894c13de9aee31a8cf10faf3c19c287e0e519875341556310b7", checked := Try.checked }
namespace Rows
def none {H : Type} : Left H := { results := [], args := [] }

/-- 'laws.FnKept': WHATEVER THE INPUT: true; the input reads as it did. -/
def fnKeptSpec : ChangeSpec := { name := "fnKept", fn := fun _ => fun
  | [d] => { results := [.lit (.bool true)], args := [d] }
  | _ => none }
def fnKeptRow : OpenClaim := { program := "ytcoppgllfipbeaa", sum := "c8e274f6e90ac894c13de9aee31a8cf10faf3c19c287e0e519875341556310b7", func := "loop.example/g00504/laws.FnKept", spec := "fnKept", apart := false }
def FnKeptSaid : Prop := fnKeptRow.holds Try.pinned (OpenSpec.ofChange fnKeptSpec)

/-- ITS FALSE NEIGHBOUR: 'it returns false'. Refute it at one input. -/
def fnKeptWrong : ChangeSpec := { name := "fnKept", fn := fun _ => fun
  | [d] => { results := [.lit (.bool false)], args := [d] }
  | _ => none }
def FnKeptWrongFalsely : Prop := fnKeptRow.holds Try.pinned (OpenSpec.ofChange fnKeptWrong)

/-- 'laws.FnResetFor': WHATEVER THE INPUT: true; the input reads as it did. -/
def fnResetForSpec : ChangeSpec := { name := "fnResetFor", fn := fun _ => fun
  | [d] => { results := [.lit (.bool true)], args := [d] }
  | _ => none }
def fnResetForRow : OpenClaim := { program := "ytcoppgllfipbeaa", sum := "c8e274f6e90ac894c13de9aee31a8cf10faf3c19c287e0e519875341556310b7", func := "loop.example/g00504/laws.FnResetFor", spec := "fnResetFor", apart := false }
def FnResetForSaid : Prop := fnResetForRow.holds Try.pinned (OpenSpec.ofChange fnResetForSpec)

/-- ITS FALSE NEIGHBOUR: 'it returns false'. Refute it at one input. -/
def fnResetForWrong : ChangeSpec := { name := "fnResetFor", fn := fun _ => fun
  | [d] => { results := [.lit (.bool false)], args := [d] }
  | _ => none }
def FnResetForWrongFalsely : Prop := fnResetForRow.holds Try.pinned (OpenSpec.ofChange fnResetForWrong)

/-- 'laws.FnConnNew': WHATEVER THE INPUT: true; the input reads as it did. -/
def fnConnNewSpec : ChangeSpec := { name := "fnConnNew", fn := fun _ => fun
  | [d] => { results := [.lit (.bool true)], args := [d] }
  | _ => none }
def fnConnNewRow : OpenClaim := { program := "ytcoppgllfipbeaa", sum := "c8e274f6e90ac894c13de9aee31a8cf10faf3c19c287e0e519875341556310b7", func := "loop.example/g00504/laws.FnConnNew", spec := "fnConnNew", apart := false }
def FnConnNewSaid : Prop := fnConnNewRow.holds Try.pinned (OpenSpec.ofChange fnConnNewSpec)

/-- ITS FALSE NEIGHBOUR: 'it returns false'. Refute it at one input. -/
def fnConnNewWrong : ChangeSpec := { name := "fnConnNew", fn := fun _ => fun
  | [d] => { results := [.lit (.bool false)], args := [d] }
  | _ => none }
def FnConnNewWrongFalsely : Prop := fnConnNewRow.holds Try.pinned (OpenSpec.ofChange fnConnNewWrong)

/-- 'laws.FnHalves': WHATEVER THE INPUT: true; the input reads as it did. -/
def fnHalvesSpec : ChangeSpec := { name := "fnHalves", fn := fun _ => fun
  | [d] => { results := [.lit (.bool true)], args := [d] }
  | _ => none }
def fnHalvesRow : OpenClaim := { program := "ytcoppgllfipbeaa", sum := "c8e274f6e90ac894c13de9aee31a8cf10faf3c19c287e0e519875341556310b7", func := "loop.example/g00504/laws.FnHalves", spec := "fnHalves", unfollowed := true, recurses := true, apart := false }
def FnHalvesSaid : Prop := fnHalvesRow.holds Try.pinned (OpenSpec.ofChange fnHalvesSpec)

/-- ITS FALSE NEIGHBOUR: 'it returns false'. Refute it at one input. -/
def fnHalvesWrong : ChangeSpec := { name := "fnHalves", fn := fun _ => fun
  | [d] => { results := [.lit (.bool false)], args := [d] }
  | _ => none }
def FnHalvesWrongFalsely : Prop := fnHalvesRow.holds Try.pinned (OpenSpec.ofChange fnHalvesWrong)

/- THE SECOND FORM. 'bulk': how many values and letters a reading holds, each counted each time it is reached (what is shared counts as often as it is met; a slice's spare places count too). A statement '..UptoSaid' is the law's where the arguments, and the package variables that the reading takes, are together of bulk at most 1048576: NARROWER than '..Said'. Prove '..Said' where nothing that the law and all that it calls make is longer than what came in: it says more and counts as full. Else prove '..UptoSaid'. A law counts once. -/
mutual
def uptoBulk {H : Type} : DataW H → Nat
  | .lit (.string bytes) => bytes.length + 1
  | .lit _ => 1
  | .nil => 1
  | .ptr d => uptoBulk d + 1
  | .slice elems spare => uptoBulkAll elems + uptoBulkAll spare + 1
  | .agg parts => uptoBulkAll parts + 1
  | .iface _ d => uptoBulk d + 1
  | .map entries => uptoBulkEntries entries + 1
  | .held _ => 1
def uptoBulkAll {H : Type} : List (DataW H) → Nat
  | [] => 0
  | d :: r => uptoBulk d + uptoBulkAll r
def uptoBulkEntries {H : Type} : List (Lit × DataW H) → Nat
  | [] => 0
  | x :: r => uptoBulkEntry x + uptoBulkEntries r
def uptoBulkEntry {H : Type} : Lit × DataW H → Nat
  | (.string bytes, d) => bytes.length + uptoBulk d + 1
  | (_, d) => uptoBulk d + 1
 end
def uptoSmall : (H : Type) → List (DataW H) → Bool := fun _ ds => decide (uptoBulkAll ds ≤ 1048576)
def OpenSpec.upto (s : _root_.Go.ChangeSpec) : _root_.Go.OpenSpec := { _root_.Go.OpenSpec.ofChange s with cond := some uptoSmall }

/-- 'laws.FnKept', WHERE WHAT IT READS IS OF BULK AT MOST 1048576: true; the input reads as it did. -/
def fnKeptUptoRow : OpenClaim := { program := "ytcoppgllfipbeaa", sum := "c8e274f6e90ac894c13de9aee31a8cf10faf3c19c287e0e519875341556310b7", func := "loop.example/g00504/laws.FnKept", spec := "fnKept", apart := false, narrowed := true }
def FnKeptUptoSaid : Prop := fnKeptUptoRow.holds Try.pinned (OpenSpec.upto fnKeptSpec)

/-- 'laws.FnResetFor', WHERE WHAT IT READS IS OF BULK AT MOST 1048576: true; the input reads as it did. -/
def fnResetForUptoRow : OpenClaim := { program := "ytcoppgllfipbeaa", sum := "c8e274f6e90ac894c13de9aee31a8cf10faf3c19c287e0e519875341556310b7", func := "loop.example/g00504/laws.FnResetFor", spec := "fnResetFor", apart := false, narrowed := true }
def FnResetForUptoSaid : Prop := fnResetForUptoRow.holds Try.pinned (OpenSpec.upto fnResetForSpec)

/-- 'laws.FnConnNew', WHERE WHAT IT READS IS OF BULK AT MOST 1048576: true; the input reads as it did. -/
def fnConnNewUptoRow : OpenClaim := { program := "ytcoppgllfipbeaa", sum := "c8e274f6e90ac894c13de9aee31a8cf10faf3c19c287e0e519875341556310b7", func := "loop.example/g00504/laws.FnConnNew", spec := "fnConnNew", apart := false, narrowed := true }
def FnConnNewUptoSaid : Prop := fnConnNewUptoRow.holds Try.pinned (OpenSpec.upto fnConnNewSpec)

/-- 'laws.FnHalves', WHERE WHAT IT READS IS OF BULK AT MOST 1048576: true; the input reads as it did. -/
def fnHalvesUptoRow : OpenClaim := { program := "ytcoppgllfipbeaa", sum := "c8e274f6e90ac894c13de9aee31a8cf10faf3c19c287e0e519875341556310b7", func := "loop.example/g00504/laws.FnHalves", spec := "fnHalves", unfollowed := true, recurses := true, apart := false, narrowed := true }
def FnHalvesUptoSaid : Prop := fnHalvesUptoRow.holds Try.pinned (OpenSpec.upto fnHalvesSpec)

end Rows
end Go.Proofs.Ytcoppgllfipbeaa
