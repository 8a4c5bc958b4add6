/-
  No cell of these rows narrows 'for every input' (looked for: loops, veiled, ifaces, maps, wideKeys, modest, calm, conditions, laid).
  DERIVED. THE GIVEN ROWS OF THIS SEAT. 7 by the template 'for every input the law returns true; each argument reads behind the call as it read before'; 0 by the template 'total and deterministic' (their statements: YtnmmhbhdcplfmaaGreatTotals.lean).
  GIVEN WITH THE SEED: the statements are not yours to turn. If you find one false, say at which input.
  Laid BY PROGRAM, IN A SANDBOX (cutbox-rows.mjs): the forced cells as the released guide's own fill.sh prints them over the translation e72d44f9e1a26cb1… (all of the seat's roots in one cut). By AI agents, Wed Nov 11 2026. No macro, syntax, notation, axiom, sorry.
-/
import Derived.Test.YtnmmhbhdcplfmaaGreatChecked
import GoSem.Claim
import GoSem.ClaimJoined
import GoSem.ClaimMapViews
import Derived.JoinedTies
import Derived.KernelRfl
namespace Go.Proofs.YtnmmhbhdcplfmaaGreat
/- THE CELL 'sum', in the pinned program and in every row, IS THE sha256 OF THE DUMP (.gsa) THAT YtnmmhbhdcplfmaaGreatProg.lean LOADS. Nothing in Lean hashes anything: it is a label: what it is worth is what the hold of that sum in a sandbox is worth. -/
noncomputable def Tryz.pinned : Pinned := { name := "ytnmmhbhdcplfmaagreat", sum := "e72d44f9e1a26cb1f75dc9a20f2dd1ed4dca00eaf3837901dfb3db0c076b0040", checked := Tryz.checked }
namespace Rows
def none {H : Type} : Left H := { results := [], args := [] }

/-- 'laws.FnVerdict': WHATEVER THE INPUT: true; the input reads as it did. -/
def fnVerdictSpec : ChangeSpec := { name := "fnVerdict", fn := fun _ => fun
  | [d] => { results := [.lit (.bool true)], args := [d] }
  | _ => none }
def fnVerdictRow : OpenClaim := { program := "ytnmmhbhdcplfmaagreat", sum := "e72d44f9e1a26cb1f75dc9a20f2dd1ed4dca00eaf3837901dfb3db0c076b0040", func := "loop.example/g00504/laws.FnVerdict", spec := "fnVerdict", apart := false }
def FnVerdictSaid : Prop := fnVerdictRow.holds Tryz.pinned (OpenSpec.ofChange fnVerdictSpec)

/-- ITS FALSE NEIGHBOUR: 'it returns false'. Refute it at one input. -/
def fnVerdictWrong : ChangeSpec := { name := "fnVerdict", fn := fun _ => fun
  | [d] => { results := [.lit (.bool false)], args := [d] }
  | _ => none }
def FnVerdictWrongFalsely : Prop := fnVerdictRow.holds Tryz.pinned (OpenSpec.ofChange fnVerdictWrong)

/-- 'laws.FnRead': WHATEVER THE INPUT: true; the input reads as it did. -/
def fnReadSpec : ChangeSpec := { name := "fnRead", fn := fun _ => fun
  | [d] => { results := [.lit (.bool true)], args := [d] }
  | _ => none }
def fnReadRow : OpenClaim := { program := "ytnmmhbhdcplfmaagreat", sum := "e72d44f9e1a26cb1f75dc9a20f2dd1ed4dca00eaf3837901dfb3db0c076b0040", func := "loop.example/g00504/laws.FnRead", spec := "fnRead", apart := false }
def FnReadSaid : Prop := fnReadRow.holds Tryz.pinned (OpenSpec.ofChange fnReadSpec)

/-- ITS FALSE NEIGHBOUR: 'it returns false'. Refute it at one input. -/
def fnReadWrong : ChangeSpec := { name := "fnRead", fn := fun _ => fun
  | [d] => { results := [.lit (.bool false)], args := [d] }
  | _ => none }
def FnReadWrongFalsely : Prop := fnReadRow.holds Tryz.pinned (OpenSpec.ofChange fnReadWrong)

/-- 'laws.FnShut': WHATEVER THE INPUT: true; the input reads as it did. -/
def fnShutSpec : ChangeSpec := { name := "fnShut", fn := fun _ => fun
  | [d] => { results := [.lit (.bool true)], args := [d] }
  | _ => none }
def fnShutRow : OpenClaim := { program := "ytnmmhbhdcplfmaagreat", sum := "e72d44f9e1a26cb1f75dc9a20f2dd1ed4dca00eaf3837901dfb3db0c076b0040", func := "loop.example/g00504/laws.FnShut", spec := "fnShut", apart := false }
def FnShutSaid : Prop := fnShutRow.holds Tryz.pinned (OpenSpec.ofChange fnShutSpec)

/-- ITS FALSE NEIGHBOUR: 'it returns false'. Refute it at one input. -/
def fnShutWrong : ChangeSpec := { name := "fnShut", fn := fun _ => fun
  | [d] => { results := [.lit (.bool false)], args := [d] }
  | _ => none }
def FnShutWrongFalsely : Prop := fnShutRow.holds Tryz.pinned (OpenSpec.ofChange fnShutWrong)

/-- 'laws.FnWrite': WHATEVER THE INPUT: true; the input reads as it did. -/
def fnWriteSpec : ChangeSpec := { name := "fnWrite", fn := fun _ => fun
  | [d] => { results := [.lit (.bool true)], args := [d] }
  | _ => none }
def fnWriteRow : OpenClaim := { program := "ytnmmhbhdcplfmaagreat", sum := "e72d44f9e1a26cb1f75dc9a20f2dd1ed4dca00eaf3837901dfb3db0c076b0040", func := "loop.example/g00504/laws.FnWrite", spec := "fnWrite", apart := false }
def FnWriteSaid : Prop := fnWriteRow.holds Tryz.pinned (OpenSpec.ofChange fnWriteSpec)

/-- ITS FALSE NEIGHBOUR: 'it returns false'. Refute it at one input. -/
def fnWriteWrong : ChangeSpec := { name := "fnWrite", fn := fun _ => fun
  | [d] => { results := [.lit (.bool false)], args := [d] }
  | _ => none }
def FnWriteWrongFalsely : Prop := fnWriteRow.holds Tryz.pinned (OpenSpec.ofChange fnWriteWrong)

/-- 'laws.FnPump': WHATEVER THE INPUT: true; the input reads as it did. -/
def fnPumpSpec : ChangeSpec := { name := "fnPump", fn := fun _ => fun
  | [d] => { results := [.lit (.bool true)], args := [d] }
  | _ => none }
def fnPumpRow : OpenClaim := { program := "ytnmmhbhdcplfmaagreat", sum := "e72d44f9e1a26cb1f75dc9a20f2dd1ed4dca00eaf3837901dfb3db0c076b0040", func := "loop.example/g00504/laws.FnPump", spec := "fnPump", apart := false }
def FnPumpSaid : Prop := fnPumpRow.holds Tryz.pinned (OpenSpec.ofChange fnPumpSpec)

/-- ITS FALSE NEIGHBOUR: 'it returns false'. Refute it at one input. -/
def fnPumpWrong : ChangeSpec := { name := "fnPump", fn := fun _ => fun
  | [d] => { results := [.lit (.bool false)], args := [d] }
  | _ => none }
def FnPumpWrongFalsely : Prop := fnPumpRow.holds Tryz.pinned (OpenSpec.ofChange fnPumpWrong)

/-- 'laws.FnTick': WHATEVER THE INPUT: true; the input reads as it did. -/
def fnTickSpec : ChangeSpec := { name := "fnTick", fn := fun _ => fun
  | [d] => { results := [.lit (.bool true)], args := [d] }
  | _ => none }
def fnTickRow : OpenClaim := { program := "ytnmmhbhdcplfmaagreat", sum := "e72d44f9e1a26cb1f75dc9a20f2dd1ed4dca00eaf3837901dfb3db0c076b0040", func := "loop.example/g00504/laws.FnTick", spec := "fnTick", apart := false }
def FnTickSaid : Prop := fnTickRow.holds Tryz.pinned (OpenSpec.ofChange fnTickSpec)

/-- ITS FALSE NEIGHBOUR: 'it returns false'. Refute it at one input. -/
def fnTickWrong : ChangeSpec := { name := "fnTick", fn := fun _ => fun
  | [d] => { results := [.lit (.bool false)], args := [d] }
  | _ => none }
def FnTickWrongFalsely : Prop := fnTickRow.holds Tryz.pinned (OpenSpec.ofChange fnTickWrong)

/-- 'laws.FnAgain': WHATEVER THE INPUT: true; the input reads as it did. -/
def fnAgainSpec : ChangeSpec := { name := "fnAgain", fn := fun _ => fun
  | [d] => { results := [.lit (.bool true)], args := [d] }
  | _ => none }
def fnAgainRow : OpenClaim := { program := "ytnmmhbhdcplfmaagreat", sum := "e72d44f9e1a26cb1f75dc9a20f2dd1ed4dca00eaf3837901dfb3db0c076b0040", func := "loop.example/g00504/laws.FnAgain", spec := "fnAgain", apart := false }
def FnAgainSaid : Prop := fnAgainRow.holds Tryz.pinned (OpenSpec.ofChange fnAgainSpec)

/-- ITS FALSE NEIGHBOUR: 'it returns false'. Refute it at one input. -/
def fnAgainWrong : ChangeSpec := { name := "fnAgain", fn := fun _ => fun
  | [d] => { results := [.lit (.bool false)], args := [d] }
  | _ => none }
def FnAgainWrongFalsely : Prop := fnAgainRow.holds Tryz.pinned (OpenSpec.ofChange fnAgainWrong)

/- THE SECOND FORM. 'bulk': how many values and letters a reading holds, each counted each time it is reached (what is shared counts as often as it is met; a slice's spare places count too). A statement '..UptoSaid' is the law's where the arguments, and the package variables that the reading takes, are together of bulk at most 1048576: NARROWER than '..Said'. Prove '..Said' where nothing that the law and all that it calls make is longer than what came in: it says more and counts as full. Else prove '..UptoSaid'. A law counts once. -/
mutual
def uptoBulk {H : Type} : DataW H → Nat
  | .lit (.string bytes) => bytes.length + 1
  | .lit _ => 1
  | .nil => 1
  | .ptr d => uptoBulk d + 1
  | .slice elems spare => uptoBulkAll elems + uptoBulkAll spare + 1
  | .agg parts => uptoBulkAll parts + 1
  | .iface _ d => uptoBulk d + 1
  | .map entries => uptoBulkEntries entries + 1
  | .held _ => 1
def uptoBulkAll {H : Type} : List (DataW H) → Nat
  | [] => 0
  | d :: r => uptoBulk d + uptoBulkAll r
def uptoBulkEntries {H : Type} : List (Lit × DataW H) → Nat
  | [] => 0
  | x :: r => uptoBulkEntry x + uptoBulkEntries r
def uptoBulkEntry {H : Type} : Lit × DataW H → Nat
  | (.string bytes, d) => bytes.length + uptoBulk d + 1
  | (_, d) => uptoBulk d + 1
 end
def uptoSmall : (H : Type) → List (DataW H) → Bool := fun _ ds => decide (uptoBulkAll ds ≤ 1048576)
def OpenSpec.upto (s : _root_.Go.ChangeSpec) : _root_.Go.OpenSpec := { _root_.Go.OpenSpec.ofChange s with cond := some uptoSmall }

/-- 'laws.FnVerdict', WHERE WHAT IT READS IS OF BULK AT MOST 1048576: true; the input reads as it did. -/
def fnVerdictUptoRow : OpenClaim := { program := "ytnmmhbhdcplfmaagreat", sum := "e72d44f9e1a26cb1f75dc9a20f2dd1ed4dca00eaf3837901dfb3db0c076b0040", func := "loop.example/g00504/laws.FnVerdict", spec := "fnVerdict", apart := false, narrowed := true }
def FnVerdictUptoSaid : Prop := fnVerdictUptoRow.holds Tryz.pinned (OpenSpec.upto fnVerdictSpec)

/-- 'laws.FnRead', WHERE WHAT IT READS IS OF BULK AT MOST 1048576: true; the input reads as it did. -/
def fnReadUptoRow : OpenClaim := { program := "ytnmmhbhdcplfmaagreat", sum := "e72d44f9e1a26cb1f75dc9a20f2dd1ed4dca00eaf3837901dfb3db0c076b0040", func := "loop.example/g00504/laws.FnRead", spec := "fnRead", apart := false, narrowed := true }
def FnReadUptoSaid : Prop := fnReadUptoRow.holds Tryz.pinned (OpenSpec.upto fnReadSpec)

/-- 'laws.FnShut', WHERE WHAT IT READS IS OF BULK AT MOST 1048576: true; the input reads as it did. -/
def fnShutUptoRow : OpenClaim := { program := "ytnmmhbhdcplfmaagreat", sum := "e72d44f9e1a26cb1f75dc9a20f2dd1ed4dca00eaf3837901dfb3db0c076b0040", func := "loop.example/g00504/laws.FnShut", spec := "fnShut", apart := false, narrowed := true }
def FnShutUptoSaid : Prop := fnShutUptoRow.holds Tryz.pinned (OpenSpec.upto fnShutSpec)

/-- 'laws.FnWrite', WHERE WHAT IT READS IS OF BULK AT MOST 1048576: true; the input reads as it did. -/
def fnWriteUptoRow : OpenClaim := { program := "ytnmmhbhdcplfmaagreat", sum := "e72d44f9e1a26cb1f75dc9a20f2dd1ed4dca00eaf3837901dfb3db0c076b0040", func := "loop.example/g00504/laws.FnWrite", spec := "fnWrite", apart := false, narrowed := true }
def FnWriteUptoSaid : Prop := fnWriteUptoRow.holds Tryz.pinned (OpenSpec.upto fnWriteSpec)

/-- 'laws.FnPump', WHERE WHAT IT READS IS OF BULK AT MOST 1048576: true; the input reads as it did. -/
def fnPumpUptoRow : OpenClaim := { program := "ytnmmhbhdcplfmaagreat", sum := "e72d44f9e1a26cb1f75dc9a20f2dd1ed4dca00eaf3837901dfb3db0c076b0040", func := "loop.example/g00504/laws.FnPump", spec := "fnPump", apart := false, narrowed := true }
def FnPumpUptoSaid : Prop := fnPumpUptoRow.holds Tryz.pinned (OpenSpec.upto fnPumpSpec)

/-- 'laws.FnTick', WHERE WHAT IT READS IS OF BULK AT MOST 1048576: true; the input reads as it did. -/
def fnTickUptoRow : OpenClaim := { program := "ytnmmhbhdcplfmaagreat", sum := "e72d44f9e1a26cb1f75dc9a20f2dd1ed4dca00eaf3837901dfb3db0c076b0040", func := "loop.example/g00504/laws.FnTick", spec := "fnTick", apart := false, narrowed := true }
def FnTickUptoSaid : Prop := fnTickUptoRow.holds Tryz.pinned (OpenSpec.upto fnTickSpec)

/-- 'laws.FnAgain', WHERE WHAT IT READS IS OF BULK AT MOST 1048576: true; the input reads as it did. -/
def fnAgainUptoRow : OpenClaim := { program := "ytnmmhbhdcplfmaagreat", sum := "e72d44f9e1a26cb1f75dc9a20f2dd1ed4dca00eaf3837901dfb3db0c076b0040", func := "loop.example/g00504/laws.FnAgain", spec := "fnAgain", apart := false, narrowed := true }
def FnAgainUptoSaid : Prop := fnAgainUptoRow.holds Tryz.pinned (OpenSpec.upto fnAgainSpec)

end Rows
end Go.Proofs.YtnmmhbhdcplfmaaGreat
