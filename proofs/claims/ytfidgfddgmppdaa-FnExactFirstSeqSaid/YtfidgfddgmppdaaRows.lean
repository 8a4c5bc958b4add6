/-
  No cell of these rows narrows 'for every input' (looked for: loops, veiled, ifaces, maps, wideKeys, modest, calm, conditions, laid).
  DERIVED. THE GIVEN ROWS OF THIS SEAT. 3 by the template 'for every input the law returns true; each argument reads behind the call as it read before'; 0 by the template 'total and deterministic' (their statements: YtfidgfddgmppdaaTotals.lean).
  GIVEN WITH THE SEED: the statements are not yours to turn. If you find one false, say at which input.
  Laid BY PROGRAM, IN A SANDBOX (cutbox-rows.mjs): the forced cells as the released guide's own fill.sh prints them over the translation 61d9553b4380945e… (all of the seat's roots in one cut). By AI agents, Wed Nov 11 2026. No macro, syntax, notation, axiom, sorry.
-/
import Derived.Test.YtfidgfddgmppdaaChecked
import GoSem.Claim
import GoSem.ClaimJoined
import GoSem.ClaimMapViews
import Derived.JoinedTies
import Derived.KernelRfl
namespace Go.Proofs.Ytfidgfddgmppdaa
/- THE CELL 'sum', in the pinned program and in every row, IS THE sha256 OF THE DUMP (.gsa) THAT YtfidgfddgmppdaaProg.lean LOADS. Nothing in Lean hashes anything: it is a label: what it is worth is what the hold of that sum in a sandbox is worth. -/
noncomputable def Try.pinned : Pinned := { name := "ytfidgfddgmppdaa", sum := "61d9553b4380945e3da3111e39912a06de9d7794dab7207835b341d8dd485daf", checked := Try.checked }
namespace Rows
def none {H : Type} : Left H := { results := [], args := [] }

/-- 'laws.FnExactSameDoor': WHATEVER THE INPUT: true; the input reads as it did. -/
def fnExactSameDoorSpec : ChangeSpec := { name := "fnExactSameDoor", fn := fun _ => fun
  | [d1, d2] => { results := [.lit (.bool true)], args := [d1, d2] }
  | _ => none }
def fnExactSameDoorRow : OpenClaim := { program := "ytfidgfddgmppdaa", sum := "61d9553b4380945e3da3111e39912a06de9d7794dab7207835b341d8dd485daf", func := "loop.example/g00504/laws.FnExactSameDoor", spec := "fnExactSameDoor", unfollowed := true, recurses := true, apart := false }
def FnExactSameDoorSaid : Prop := fnExactSameDoorRow.holds Try.pinned (OpenSpec.ofChange fnExactSameDoorSpec)

/-- ITS FALSE NEIGHBOUR: 'it returns false'. Refute it at one input. -/
def fnExactSameDoorWrong : ChangeSpec := { name := "fnExactSameDoor", fn := fun _ => fun
  | [d1, d2] => { results := [.lit (.bool false)], args := [d1, d2] }
  | _ => none }
def FnExactSameDoorWrongFalsely : Prop := fnExactSameDoorRow.holds Try.pinned (OpenSpec.ofChange fnExactSameDoorWrong)

/-- 'laws.FnExactFirstSeq': WHATEVER THE INPUT: true; the input reads as it did. -/
def fnExactFirstSeqSpec : ChangeSpec := { name := "fnExactFirstSeq", fn := fun _ => fun
  | [d1, d2, d3] => { results := [.lit (.bool true)], args := [d1, d2, d3] }
  | _ => none }
def fnExactFirstSeqRow : OpenClaim := { program := "ytfidgfddgmppdaa", sum := "61d9553b4380945e3da3111e39912a06de9d7794dab7207835b341d8dd485daf", func := "loop.example/g00504/laws.FnExactFirstSeq", spec := "fnExactFirstSeq", apart := false }
def FnExactFirstSeqSaid : Prop := fnExactFirstSeqRow.holds Try.pinned (OpenSpec.ofChange fnExactFirstSeqSpec)

/-- ITS FALSE NEIGHBOUR: 'it returns false'. Refute it at one input. -/
def fnExactFirstSeqWrong : ChangeSpec := { name := "fnExactFirstSeq", fn := fun _ => fun
  | [d1, d2, d3] => { results := [.lit (.bool false)], args := [d1, d2, d3] }
  | _ => none }
def FnExactFirstSeqWrongFalsely : Prop := fnExactFirstSeqRow.holds Try.pinned (OpenSpec.ofChange fnExactFirstSeqWrong)

/-- 'laws.FnExactDoorOk': WHATEVER THE INPUT: true; the input reads as it did. -/
def fnExactDoorOkSpec : ChangeSpec := { name := "fnExactDoorOk", fn := fun _ => fun
  | [d] => { results := [.lit (.bool true)], args := [d] }
  | _ => none }
def fnExactDoorOkRow : OpenClaim := { program := "ytfidgfddgmppdaa", sum := "61d9553b4380945e3da3111e39912a06de9d7794dab7207835b341d8dd485daf", func := "loop.example/g00504/laws.FnExactDoorOk", spec := "fnExactDoorOk", unfollowed := true, recurses := true, apart := false }
def FnExactDoorOkSaid : Prop := fnExactDoorOkRow.holds Try.pinned (OpenSpec.ofChange fnExactDoorOkSpec)

/-- ITS FALSE NEIGHBOUR: 'it returns false'. Refute it at one input. -/
def fnExactDoorOkWrong : ChangeSpec := { name := "fnExactDoorOk", fn := fun _ => fun
  | [d] => { results := [.lit (.bool false)], args := [d] }
  | _ => none }
def FnExactDoorOkWrongFalsely : Prop := fnExactDoorOkRow.holds Try.pinned (OpenSpec.ofChange fnExactDoorOkWrong)

/- THE SECOND FORM. 'bulk': how many values and letters a reading holds, each counted each time it is reached (what is shared counts as often as it is met; a slice's spare places count too). A statement '..UptoSaid' is the law's where the arguments, and the package variables that the reading takes, are together of bulk at most 1048576: NARROWER than '..Said'. Prove '..Said' where nothing that the law and all that it calls make is longer than what came in: it says more and counts as full. Else prove '..UptoSaid'. A law counts once. -/
mutual
def uptoBulk {H : Type} : DataW H → Nat
  | .lit (.string bytes) => bytes.length + 1
  | .lit _ => 1
  | .nil => 1
  | .ptr d => uptoBulk d + 1
  | .slice elems spare => uptoBulkAll elems + uptoBulkAll spare + 1
  | .agg parts => uptoBulkAll parts + 1
  | .iface _ d => uptoBulk d + 1
  | .map entries => uptoBulkEntries entries + 1
  | .held _ => 1
def uptoBulkAll {H : Type} : List (DataW H) → Nat
  | [] => 0
  | d :: r => uptoBulk d + uptoBulkAll r
def uptoBulkEntries {H : Type} : List (Lit × DataW H) → Nat
  | [] => 0
  | x :: r => uptoBulkEntry x + uptoBulkEntries r
def uptoBulkEntry {H : Type} : Lit × DataW H → Nat
  | (.string bytes, d) => bytes.length + uptoBulk d + 1
  | (_, d) => uptoBulk d + 1
 end
def uptoSmall : (H : Type) → List (DataW H) → Bool := fun _ ds => decide (uptoBulkAll ds ≤ 1048576)
def OpenSpec.upto (s : _root_.Go.ChangeSpec) : _root_.Go.OpenSpec := { _root_.Go.OpenSpec.ofChange s with cond := some uptoSmall }

/-- 'laws.FnExactSameDoor', WHERE WHAT IT READS IS OF BULK AT MOST 1048576: true; the input reads as it did. -/
def fnExactSameDoorUptoRow : OpenClaim := { program := "ytfidgfddgmppdaa", sum := "61d9553b4380945e3da3111e39912a06de9d7794dab7207835b341d8dd485daf", func := "loop.example/g00504/laws.FnExactSameDoor", spec := "fnExactSameDoor", unfollowed := true, recurses := true, apart := false, narrowed := true }
def FnExactSameDoorUptoSaid : Prop := fnExactSameDoorUptoRow.holds Try.pinned (OpenSpec.upto fnExactSameDoorSpec)

/-- 'laws.FnExactFirstSeq', WHERE WHAT IT READS IS OF BULK AT MOST 1048576: true; the input reads as it did. -/
def fnExactFirstSeqUptoRow : OpenClaim := { program := "ytfidgfddgmppdaa", sum := "61d9553b4380945e3da3111e39912a06de9d7794dab7207835b341d8dd485daf", func := "loop.example/g00504/laws.FnExactFirstSeq", spec := "fnExactFirstSeq", apart := false, narrowed := true }
def FnExactFirstSeqUptoSaid : Prop := fnExactFirstSeqUptoRow.holds Try.pinned (OpenSpec.upto fnExactFirstSeqSpec)

/-- 'laws.FnExactDoorOk', WHERE WHAT IT READS IS OF BULK AT MOST 1048576: true; the input reads as it did. -/
def fnExactDoorOkUptoRow : OpenClaim := { program := "ytfidgfddgmppdaa", sum := "61d9553b4380945e3da3111e39912a06de9d7794dab7207835b341d8dd485daf", func := "loop.example/g00504/laws.FnExactDoorOk", spec := "fnExactDoorOk", unfollowed := true, recurses := true, apart := false, narrowed := true }
def FnExactDoorOkUptoSaid : Prop := fnExactDoorOkUptoRow.holds Try.pinned (OpenSpec.upto fnExactDoorOkSpec)

end Rows
end Go.Proofs.Ytfidgfddgmppdaa
