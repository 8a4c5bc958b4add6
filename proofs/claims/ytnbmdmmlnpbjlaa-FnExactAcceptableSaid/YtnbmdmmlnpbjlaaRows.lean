/-
  No cell of these rows narrows 'for every input' (looked for: loops, veiled, ifaces, maps, wideKeys, modest, calm, conditions, laid).
  DERIVED. THE GIVEN ROWS OF THIS SEAT. 12 by the template 'for every input the law returns true; each argument reads behind the call as it read before'; 0 by the template 'total and deterministic' (their statements: YtnbmdmmlnpbjlaaTotals.lean).
  GIVEN WITH THE SEED: the statements are not yours to turn. If you find one false, say at which input.
  Laid BY PROGRAM, IN A SANDBOX (cutbox-rows.mjs): the forced cells as the released guide's own fill.sh prints them over the translation 2983e029ea76caf7… (all of the seat's roots in one cut). By AI agents, Wed Nov 11 2026. No macro, syntax, notation, axiom, sorry.
-/
import Derived.Test.YtnbmdmmlnpbjlaaChecked
import GoSem.Claim
import GoSem.ClaimJoined
import GoSem.ClaimMapViews
import Derived.JoinedTies
import Derived.KernelRfl
namespace Go.Proofs.Ytnbmdmmlnpbjlaa
/- THE CELL 'sum', in the pinned program and in every row, IS THE sha256 OF THE DUMP (.gsa) THAT YtnbmdmmlnpbjlaaProg.lean LOADS. Nothing in Lean hashes anything: it is a label: what it is worth is what the hold of that sum in a sandbox is worth. -/
noncomputable def Try.pinned : Pinned := { name := "ytnbmdmmlnpbjlaa", sum := "2983e029ea76caf7d6a3c26e09368ebde3d5ef8d8ee5f1adf8888ee98394cc73", checked := Try.checked }
namespace Rows
def none {H : Type} : Left H := { results := [], args := [] }

/-- 'laws.FnExactDropHalf': WHATEVER THE INPUT: true; the input reads as it did. -/
def fnExactDropHalfSpec : ChangeSpec := { name := "fnExactDropHalf", fn := fun _ => fun
  | [d1, d2] => { results := [.lit (.bool true)], args := [d1, d2] }
  | _ => none }
def fnExactDropHalfRow : OpenClaim := { program := "ytnbmdmmlnpbjlaa", sum := "2983e029ea76caf7d6a3c26e09368ebde3d5ef8d8ee5f1adf8888ee98394cc73", func := "loop.example/g00504/laws.FnExactDropHalf", spec := "fnExactDropHalf", unfollowed := true, recurses := true, apart := false }
def FnExactDropHalfSaid : Prop := fnExactDropHalfRow.holds Try.pinned (OpenSpec.ofChange fnExactDropHalfSpec)

/-- ITS FALSE NEIGHBOUR: 'it returns false'. Refute it at one input. -/
def fnExactDropHalfWrong : ChangeSpec := { name := "fnExactDropHalf", fn := fun _ => fun
  | [d1, d2] => { results := [.lit (.bool false)], args := [d1, d2] }
  | _ => none }
def FnExactDropHalfWrongFalsely : Prop := fnExactDropHalfRow.holds Try.pinned (OpenSpec.ofChange fnExactDropHalfWrong)

/-- 'laws.FnExactPutHalf': WHATEVER THE INPUT: true; the input reads as it did. -/
def fnExactPutHalfSpec : ChangeSpec := { name := "fnExactPutHalf", fn := fun _ => fun
  | [d1, d2, d3] => { results := [.lit (.bool true)], args := [d1, d2, d3] }
  | _ => none }
def fnExactPutHalfRow : OpenClaim := { program := "ytnbmdmmlnpbjlaa", sum := "2983e029ea76caf7d6a3c26e09368ebde3d5ef8d8ee5f1adf8888ee98394cc73", func := "loop.example/g00504/laws.FnExactPutHalf", spec := "fnExactPutHalf", unfollowed := true, recurses := true, apart := false }
def FnExactPutHalfSaid : Prop := fnExactPutHalfRow.holds Try.pinned (OpenSpec.ofChange fnExactPutHalfSpec)

/-- ITS FALSE NEIGHBOUR: 'it returns false'. Refute it at one input. -/
def fnExactPutHalfWrong : ChangeSpec := { name := "fnExactPutHalf", fn := fun _ => fun
  | [d1, d2, d3] => { results := [.lit (.bool false)], args := [d1, d2, d3] }
  | _ => none }
def FnExactPutHalfWrongFalsely : Prop := fnExactPutHalfRow.holds Try.pinned (OpenSpec.ofChange fnExactPutHalfWrong)

/-- 'laws.FnExactConnNew': WHATEVER THE INPUT: true; the input reads as it did. -/
def fnExactConnNewSpec : ChangeSpec := { name := "fnExactConnNew", fn := fun _ => fun
  | [d1, d2, d3, d4, d5] => { results := [.lit (.bool true)], args := [d1, d2, d3, d4, d5] }
  | _ => none }
def fnExactConnNewRow : OpenClaim := { program := "ytnbmdmmlnpbjlaa", sum := "2983e029ea76caf7d6a3c26e09368ebde3d5ef8d8ee5f1adf8888ee98394cc73", func := "loop.example/g00504/laws.FnExactConnNew", spec := "fnExactConnNew", apart := false }
def FnExactConnNewSaid : Prop := fnExactConnNewRow.holds Try.pinned (OpenSpec.ofChange fnExactConnNewSpec)

/-- ITS FALSE NEIGHBOUR: 'it returns false'. Refute it at one input. -/
def fnExactConnNewWrong : ChangeSpec := { name := "fnExactConnNew", fn := fun _ => fun
  | [d1, d2, d3, d4, d5] => { results := [.lit (.bool false)], args := [d1, d2, d3, d4, d5] }
  | _ => none }
def FnExactConnNewWrongFalsely : Prop := fnExactConnNewRow.holds Try.pinned (OpenSpec.ofChange fnExactConnNewWrong)

/-- 'laws.FnExactMssFor': WHATEVER THE INPUT: true; the input reads as it did. -/
def fnExactMssForSpec : ChangeSpec := { name := "fnExactMssFor", fn := fun _ => fun
  | [d] => { results := [.lit (.bool true)], args := [d] }
  | _ => none }
def fnExactMssForRow : OpenClaim := { program := "ytnbmdmmlnpbjlaa", sum := "2983e029ea76caf7d6a3c26e09368ebde3d5ef8d8ee5f1adf8888ee98394cc73", func := "loop.example/g00504/laws.FnExactMssFor", spec := "fnExactMssFor", apart := false }
def FnExactMssForSaid : Prop := fnExactMssForRow.holds Try.pinned (OpenSpec.ofChange fnExactMssForSpec)

/-- ITS FALSE NEIGHBOUR: 'it returns false'. Refute it at one input. -/
def fnExactMssForWrong : ChangeSpec := { name := "fnExactMssFor", fn := fun _ => fun
  | [d] => { results := [.lit (.bool false)], args := [d] }
  | _ => none }
def FnExactMssForWrongFalsely : Prop := fnExactMssForRow.holds Try.pinned (OpenSpec.ofChange fnExactMssForWrong)

/-- 'laws.FnExactSameConn': WHATEVER THE INPUT: true; the input reads as it did. -/
def fnExactSameConnSpec : ChangeSpec := { name := "fnExactSameConn", fn := fun _ => fun
  | [d1, d2] => { results := [.lit (.bool true)], args := [d1, d2] }
  | _ => none }
def fnExactSameConnRow : OpenClaim := { program := "ytnbmdmmlnpbjlaa", sum := "2983e029ea76caf7d6a3c26e09368ebde3d5ef8d8ee5f1adf8888ee98394cc73", func := "loop.example/g00504/laws.FnExactSameConn", spec := "fnExactSameConn", apart := false }
def FnExactSameConnSaid : Prop := fnExactSameConnRow.holds Try.pinned (OpenSpec.ofChange fnExactSameConnSpec)

/-- ITS FALSE NEIGHBOUR: 'it returns false'. Refute it at one input. -/
def fnExactSameConnWrong : ChangeSpec := { name := "fnExactSameConn", fn := fun _ => fun
  | [d1, d2] => { results := [.lit (.bool false)], args := [d1, d2] }
  | _ => none }
def FnExactSameConnWrongFalsely : Prop := fnExactSameConnRow.holds Try.pinned (OpenSpec.ofChange fnExactSameConnWrong)

/-- 'laws.FnExactAckFits': WHATEVER THE INPUT: true; the input reads as it did. -/
def fnExactAckFitsSpec : ChangeSpec := { name := "fnExactAckFits", fn := fun _ => fun
  | [d1, d2] => { results := [.lit (.bool true)], args := [d1, d2] }
  | _ => none }
def fnExactAckFitsRow : OpenClaim := { program := "ytnbmdmmlnpbjlaa", sum := "2983e029ea76caf7d6a3c26e09368ebde3d5ef8d8ee5f1adf8888ee98394cc73", func := "loop.example/g00504/laws.FnExactAckFits", spec := "fnExactAckFits", apart := false }
def FnExactAckFitsSaid : Prop := fnExactAckFitsRow.holds Try.pinned (OpenSpec.ofChange fnExactAckFitsSpec)

/-- ITS FALSE NEIGHBOUR: 'it returns false'. Refute it at one input. -/
def fnExactAckFitsWrong : ChangeSpec := { name := "fnExactAckFits", fn := fun _ => fun
  | [d1, d2] => { results := [.lit (.bool false)], args := [d1, d2] }
  | _ => none }
def FnExactAckFitsWrongFalsely : Prop := fnExactAckFitsRow.holds Try.pinned (OpenSpec.ofChange fnExactAckFitsWrong)

/-- 'laws.FnExactAckOf': WHATEVER THE INPUT: true; the input reads as it did. -/
def fnExactAckOfSpec : ChangeSpec := { name := "fnExactAckOf", fn := fun _ => fun
  | [d] => { results := [.lit (.bool true)], args := [d] }
  | _ => none }
def fnExactAckOfRow : OpenClaim := { program := "ytnbmdmmlnpbjlaa", sum := "2983e029ea76caf7d6a3c26e09368ebde3d5ef8d8ee5f1adf8888ee98394cc73", func := "loop.example/g00504/laws.FnExactAckOf", spec := "fnExactAckOf", apart := false }
def FnExactAckOfSaid : Prop := fnExactAckOfRow.holds Try.pinned (OpenSpec.ofChange fnExactAckOfSpec)

/-- ITS FALSE NEIGHBOUR: 'it returns false'. Refute it at one input. -/
def fnExactAckOfWrong : ChangeSpec := { name := "fnExactAckOf", fn := fun _ => fun
  | [d] => { results := [.lit (.bool false)], args := [d] }
  | _ => none }
def FnExactAckOfWrongFalsely : Prop := fnExactAckOfRow.holds Try.pinned (OpenSpec.ofChange fnExactAckOfWrong)

/-- 'laws.FnExactAcceptable': WHATEVER THE INPUT: true; the input reads as it did. -/
def fnExactAcceptableSpec : ChangeSpec := { name := "fnExactAcceptable", fn := fun _ => fun
  | [d1, d2] => { results := [.lit (.bool true)], args := [d1, d2] }
  | _ => none }
def fnExactAcceptableRow : OpenClaim := { program := "ytnbmdmmlnpbjlaa", sum := "2983e029ea76caf7d6a3c26e09368ebde3d5ef8d8ee5f1adf8888ee98394cc73", func := "loop.example/g00504/laws.FnExactAcceptable", spec := "fnExactAcceptable", apart := false }
def FnExactAcceptableSaid : Prop := fnExactAcceptableRow.holds Try.pinned (OpenSpec.ofChange fnExactAcceptableSpec)

/-- ITS FALSE NEIGHBOUR: 'it returns false'. Refute it at one input. -/
def fnExactAcceptableWrong : ChangeSpec := { name := "fnExactAcceptable", fn := fun _ => fun
  | [d1, d2] => { results := [.lit (.bool false)], args := [d1, d2] }
  | _ => none }
def FnExactAcceptableWrongFalsely : Prop := fnExactAcceptableRow.holds Try.pinned (OpenSpec.ofChange fnExactAcceptableWrong)

/-- 'laws.FnExactArrived': WHATEVER THE INPUT: true; the input reads as it did. -/
def fnExactArrivedSpec : ChangeSpec := { name := "fnExactArrived", fn := fun _ => fun
  | [d1, d2, d3, d4] => { results := [.lit (.bool true)], args := [d1, d2, d3, d4] }
  | _ => none }
def fnExactArrivedRow : OpenClaim := { program := "ytnbmdmmlnpbjlaa", sum := "2983e029ea76caf7d6a3c26e09368ebde3d5ef8d8ee5f1adf8888ee98394cc73", func := "loop.example/g00504/laws.FnExactArrived", spec := "fnExactArrived", unfollowed := true, recurses := true, apart := false }
def FnExactArrivedSaid : Prop := fnExactArrivedRow.holds Try.pinned (OpenSpec.ofChange fnExactArrivedSpec)

/-- ITS FALSE NEIGHBOUR: 'it returns false'. Refute it at one input. -/
def fnExactArrivedWrong : ChangeSpec := { name := "fnExactArrived", fn := fun _ => fun
  | [d1, d2, d3, d4] => { results := [.lit (.bool false)], args := [d1, d2, d3, d4] }
  | _ => none }
def FnExactArrivedWrongFalsely : Prop := fnExactArrivedRow.holds Try.pinned (OpenSpec.ofChange fnExactArrivedWrong)

/-- 'laws.FnExactConnOk': WHATEVER THE INPUT: true; the input reads as it did. -/
def fnExactConnOkSpec : ChangeSpec := { name := "fnExactConnOk", fn := fun _ => fun
  | [d] => { results := [.lit (.bool true)], args := [d] }
  | _ => none }
def fnExactConnOkRow : OpenClaim := { program := "ytnbmdmmlnpbjlaa", sum := "2983e029ea76caf7d6a3c26e09368ebde3d5ef8d8ee5f1adf8888ee98394cc73", func := "loop.example/g00504/laws.FnExactConnOk", spec := "fnExactConnOk", apart := false }
def FnExactConnOkSaid : Prop := fnExactConnOkRow.holds Try.pinned (OpenSpec.ofChange fnExactConnOkSpec)

/-- ITS FALSE NEIGHBOUR: 'it returns false'. Refute it at one input. -/
def fnExactConnOkWrong : ChangeSpec := { name := "fnExactConnOk", fn := fun _ => fun
  | [d] => { results := [.lit (.bool false)], args := [d] }
  | _ => none }
def FnExactConnOkWrongFalsely : Prop := fnExactConnOkRow.holds Try.pinned (OpenSpec.ofChange fnExactConnOkWrong)

/-- 'laws.FnExactAtEnd': WHATEVER THE INPUT: true; the input reads as it did. -/
def fnExactAtEndSpec : ChangeSpec := { name := "fnExactAtEnd", fn := fun _ => fun
  | [d] => { results := [.lit (.bool true)], args := [d] }
  | _ => none }
def fnExactAtEndRow : OpenClaim := { program := "ytnbmdmmlnpbjlaa", sum := "2983e029ea76caf7d6a3c26e09368ebde3d5ef8d8ee5f1adf8888ee98394cc73", func := "loop.example/g00504/laws.FnExactAtEnd", spec := "fnExactAtEnd", apart := false }
def FnExactAtEndSaid : Prop := fnExactAtEndRow.holds Try.pinned (OpenSpec.ofChange fnExactAtEndSpec)

/-- ITS FALSE NEIGHBOUR: 'it returns false'. Refute it at one input. -/
def fnExactAtEndWrong : ChangeSpec := { name := "fnExactAtEnd", fn := fun _ => fun
  | [d] => { results := [.lit (.bool false)], args := [d] }
  | _ => none }
def FnExactAtEndWrongFalsely : Prop := fnExactAtEndRow.holds Try.pinned (OpenSpec.ofChange fnExactAtEndWrong)

/-- 'laws.FnExactWaits': WHATEVER THE INPUT: true; the input reads as it did. -/
def fnExactWaitsSpec : ChangeSpec := { name := "fnExactWaits", fn := fun _ => fun
  | [d] => { results := [.lit (.bool true)], args := [d] }
  | _ => none }
def fnExactWaitsRow : OpenClaim := { program := "ytnbmdmmlnpbjlaa", sum := "2983e029ea76caf7d6a3c26e09368ebde3d5ef8d8ee5f1adf8888ee98394cc73", func := "loop.example/g00504/laws.FnExactWaits", spec := "fnExactWaits", apart := false }
def FnExactWaitsSaid : Prop := fnExactWaitsRow.holds Try.pinned (OpenSpec.ofChange fnExactWaitsSpec)

/-- ITS FALSE NEIGHBOUR: 'it returns false'. Refute it at one input. -/
def fnExactWaitsWrong : ChangeSpec := { name := "fnExactWaits", fn := fun _ => fun
  | [d] => { results := [.lit (.bool false)], args := [d] }
  | _ => none }
def FnExactWaitsWrongFalsely : Prop := fnExactWaitsRow.holds Try.pinned (OpenSpec.ofChange fnExactWaitsWrong)

/- THE SECOND FORM. 'bulk': how many values and letters a reading holds, each counted each time it is reached (what is shared counts as often as it is met; a slice's spare places count too). A statement '..UptoSaid' is the law's where the arguments, and the package variables that the reading takes, are together of bulk at most 1048576: NARROWER than '..Said'. Prove '..Said' where nothing that the law and all that it calls make is longer than what came in: it says more and counts as full. Else prove '..UptoSaid'. A law counts once. -/
mutual
def uptoBulk {H : Type} : DataW H → Nat
  | .lit (.string bytes) => bytes.length + 1
  | .lit _ => 1
  | .nil => 1
  | .ptr d => uptoBulk d + 1
  | .slice elems spare => uptoBulkAll elems + uptoBulkAll spare + 1
  | .agg parts => uptoBulkAll parts + 1
  | .iface _ d => uptoBulk d + 1
  | .map entries => uptoBulkEntries entries + 1
  | .held _ => 1
def uptoBulkAll {H : Type} : List (DataW H) → Nat
  | [] => 0
  | d :: r => uptoBulk d + uptoBulkAll r
def uptoBulkEntries {H : Type} : List (Lit × DataW H) → Nat
  | [] => 0
  | x :: r => uptoBulkEntry x + uptoBulkEntries r
def uptoBulkEntry {H : Type} : Lit × DataW H → Nat
  | (.string bytes, d) => bytes.length + uptoBulk d + 1
  | (_, d) => uptoBulk d + 1
 end
def uptoSmall : (H : Type) → List (DataW H) → Bool := fun _ ds => decide (uptoBulkAll ds ≤ 1048576)
def OpenSpec.upto (s : _root_.Go.ChangeSpec) : _root_.Go.OpenSpec := { _root_.Go.OpenSpec.ofChange s with cond := some uptoSmall }

/-- 'laws.FnExactDropHalf', WHERE WHAT IT READS IS OF BULK AT MOST 1048576: true; the input reads as it did. -/
def fnExactDropHalfUptoRow : OpenClaim := { program := "ytnbmdmmlnpbjlaa", sum := "2983e029ea76caf7d6a3c26e09368ebde3d5ef8d8ee5f1adf8888ee98394cc73", func := "loop.example/g00504/laws.FnExactDropHalf", spec := "fnExactDropHalf", unfollowed := true, recurses := true, apart := false, narrowed := true }
def FnExactDropHalfUptoSaid : Prop := fnExactDropHalfUptoRow.holds Try.pinned (OpenSpec.upto fnExactDropHalfSpec)

/-- 'laws.FnExactPutHalf', WHERE WHAT IT READS IS OF BULK AT MOST 1048576: true; the input reads as it did. -/
def fnExactPutHalfUptoRow : OpenClaim := { program := "ytnbmdmmlnpbjlaa", sum := "2983e029ea76caf7d6a3c26e09368ebde3d5ef8d8ee5f1adf8888ee98394cc73", func := "loop.example/g00504/laws.FnExactPutHalf", spec := "fnExactPutHalf", unfollowed := true, recurses := true, apart := false, narrowed := true }
def FnExactPutHalfUptoSaid : Prop := fnExactPutHalfUptoRow.holds Try.pinned (OpenSpec.upto fnExactPutHalfSpec)

/-- 'laws.FnExactConnNew', WHERE WHAT IT READS IS OF BULK AT MOST 1048576: true; the input reads as it did. -/
def fnExactConnNewUptoRow : OpenClaim := { program := "ytnbmdmmlnpbjlaa", sum := "2983e029ea76caf7d6a3c26e09368ebde3d5ef8d8ee5f1adf8888ee98394cc73", func := "loop.example/g00504/laws.FnExactConnNew", spec := "fnExactConnNew", apart := false, narrowed := true }
def FnExactConnNewUptoSaid : Prop := fnExactConnNewUptoRow.holds Try.pinned (OpenSpec.upto fnExactConnNewSpec)

/-- 'laws.FnExactMssFor', WHERE WHAT IT READS IS OF BULK AT MOST 1048576: true; the input reads as it did. -/
def fnExactMssForUptoRow : OpenClaim := { program := "ytnbmdmmlnpbjlaa", sum := "2983e029ea76caf7d6a3c26e09368ebde3d5ef8d8ee5f1adf8888ee98394cc73", func := "loop.example/g00504/laws.FnExactMssFor", spec := "fnExactMssFor", apart := false, narrowed := true }
def FnExactMssForUptoSaid : Prop := fnExactMssForUptoRow.holds Try.pinned (OpenSpec.upto fnExactMssForSpec)

/-- 'laws.FnExactSameConn', WHERE WHAT IT READS IS OF BULK AT MOST 1048576: true; the input reads as it did. -/
def fnExactSameConnUptoRow : OpenClaim := { program := "ytnbmdmmlnpbjlaa", sum := "2983e029ea76caf7d6a3c26e09368ebde3d5ef8d8ee5f1adf8888ee98394cc73", func := "loop.example/g00504/laws.FnExactSameConn", spec := "fnExactSameConn", apart := false, narrowed := true }
def FnExactSameConnUptoSaid : Prop := fnExactSameConnUptoRow.holds Try.pinned (OpenSpec.upto fnExactSameConnSpec)

/-- 'laws.FnExactAckFits', WHERE WHAT IT READS IS OF BULK AT MOST 1048576: true; the input reads as it did. -/
def fnExactAckFitsUptoRow : OpenClaim := { program := "ytnbmdmmlnpbjlaa", sum := "2983e029ea76caf7d6a3c26e09368ebde3d5ef8d8ee5f1adf8888ee98394cc73", func := "loop.example/g00504/laws.FnExactAckFits", spec := "fnExactAckFits", apart := false, narrowed := true }
def FnExactAckFitsUptoSaid : Prop := fnExactAckFitsUptoRow.holds Try.pinned (OpenSpec.upto fnExactAckFitsSpec)

/-- 'laws.FnExactAckOf', WHERE WHAT IT READS IS OF BULK AT MOST 1048576: true; the input reads as it did. -/
def fnExactAckOfUptoRow : OpenClaim := { program := "ytnbmdmmlnpbjlaa", sum := "2983e029ea76caf7d6a3c26e09368ebde3d5ef8d8ee5f1adf8888ee98394cc73", func := "loop.example/g00504/laws.FnExactAckOf", spec := "fnExactAckOf", apart := false, narrowed := true }
def FnExactAckOfUptoSaid : Prop := fnExactAckOfUptoRow.holds Try.pinned (OpenSpec.upto fnExactAckOfSpec)

/-- 'laws.FnExactAcceptable', WHERE WHAT IT READS IS OF BULK AT MOST 1048576: true; the input reads as it did. -/
def fnExactAcceptableUptoRow : OpenClaim := { program := "ytnbmdmmlnpbjlaa", sum := "2983e029ea76caf7d6a3c26e09368ebde3d5ef8d8ee5f1adf8888ee98394cc73", func := "loop.example/g00504/laws.FnExactAcceptable", spec := "fnExactAcceptable", apart := false, narrowed := true }
def FnExactAcceptableUptoSaid : Prop := fnExactAcceptableUptoRow.holds Try.pinned (OpenSpec.upto fnExactAcceptableSpec)

/-- 'laws.FnExactArrived', WHERE WHAT IT READS IS OF BULK AT MOST 1048576: true; the input reads as it did. -/
def fnExactArrivedUptoRow : OpenClaim := { program := "ytnbmdmmlnpbjlaa", sum := "2983e029ea76caf7d6a3c26e09368ebde3d5ef8d8ee5f1adf8888ee98394cc73", func := "loop.example/g00504/laws.FnExactArrived", spec := "fnExactArrived", unfollowed := true, recurses := true, apart := false, narrowed := true }
def FnExactArrivedUptoSaid : Prop := fnExactArrivedUptoRow.holds Try.pinned (OpenSpec.upto fnExactArrivedSpec)

/-- 'laws.FnExactConnOk', WHERE WHAT IT READS IS OF BULK AT MOST 1048576: true; the input reads as it did. -/
def fnExactConnOkUptoRow : OpenClaim := { program := "ytnbmdmmlnpbjlaa", sum := "2983e029ea76caf7d6a3c26e09368ebde3d5ef8d8ee5f1adf8888ee98394cc73", func := "loop.example/g00504/laws.FnExactConnOk", spec := "fnExactConnOk", apart := false, narrowed := true }
def FnExactConnOkUptoSaid : Prop := fnExactConnOkUptoRow.holds Try.pinned (OpenSpec.upto fnExactConnOkSpec)

/-- 'laws.FnExactAtEnd', WHERE WHAT IT READS IS OF BULK AT MOST 1048576: true; the input reads as it did. -/
def fnExactAtEndUptoRow : OpenClaim := { program := "ytnbmdmmlnpbjlaa", sum := "2983e029ea76caf7d6a3c26e09368ebde3d5ef8d8ee5f1adf8888ee98394cc73", func := "loop.example/g00504/laws.FnExactAtEnd", spec := "fnExactAtEnd", apart := false, narrowed := true }
def FnExactAtEndUptoSaid : Prop := fnExactAtEndUptoRow.holds Try.pinned (OpenSpec.upto fnExactAtEndSpec)

/-- 'laws.FnExactWaits', WHERE WHAT IT READS IS OF BULK AT MOST 1048576: true; the input reads as it did. -/
def fnExactWaitsUptoRow : OpenClaim := { program := "ytnbmdmmlnpbjlaa", sum := "2983e029ea76caf7d6a3c26e09368ebde3d5ef8d8ee5f1adf8888ee98394cc73", func := "loop.example/g00504/laws.FnExactWaits", spec := "fnExactWaits", apart := false, narrowed := true }
def FnExactWaitsUptoSaid : Prop := fnExactWaitsUptoRow.holds Try.pinned (OpenSpec.upto fnExactWaitsSpec)

end Rows
end Go.Proofs.Ytnbmdmmlnpbjlaa
