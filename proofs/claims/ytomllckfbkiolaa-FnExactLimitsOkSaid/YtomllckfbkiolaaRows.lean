/-
  No cell of these rows narrows 'for every input' (looked for: loops, veiled, ifaces, maps, wideKeys, modest, calm, conditions, laid).
  DERIVED. THE GIVEN ROWS OF THIS SEAT. 11 by the template 'for every input the law returns true; each argument reads behind the call as it read before'; 0 by the template 'total and deterministic' (their statements: YtomllckfbkiolaaTotals.lean).
  GIVEN WITH THE SEED: the statements are not yours to turn. If you find one false, say at which input.
  Laid BY PROGRAM, IN A SANDBOX (cutbox-rows.mjs): the forced cells as the released guide's own fill.sh prints them over the translation f26acc46050f6c7d… (all of the seat's roots in one cut). By AI agents, Wed Nov 11 2026. No macro, syntax, notation, axiom, sorry.
-/
import Derived.Test.YtomllckfbkiolaaChecked
import GoSem.Claim
import GoSem.ClaimJoined
import GoSem.ClaimMapViews
import Derived.JoinedTies
import Derived.KernelRfl
namespace Go.Proofs.Ytomllckfbkiolaa
/- THE CELL 'sum', in the pinned program and in every row, IS THE sha256 OF THE DUMP (.gsa) THAT YtomllckfbkiolaaProg.lean LOADS. Nothing in Lean hashes anything: it is a label: what it is worth is what the hold of that sum in a sandbox is worth. -/
noncomputable def Try.pinned : Pinned := { name := "ytomllckfbkiolaa", sum := "f26acc46050f6c7d0c53a35af58bb5eca3759806876334c979627d44396dec9d", checked := Try.checked }
namespace Rows
def none {H : Type} : Left H := { results := [], args := [] }

/-- 'laws.FnExactStateWord': WHATEVER THE INPUT: true; the input reads as it did. -/
def fnExactStateWordSpec : ChangeSpec := { name := "fnExactStateWord", fn := fun _ => fun
  | [d] => { results := [.lit (.bool true)], args := [d] }
  | _ => none }
def fnExactStateWordRow : OpenClaim := { program := "ytomllckfbkiolaa", sum := "f26acc46050f6c7d0c53a35af58bb5eca3759806876334c979627d44396dec9d", func := "loop.example/g00504/laws.FnExactStateWord", spec := "fnExactStateWord", apart := false }
def FnExactStateWordSaid : Prop := fnExactStateWordRow.holds Try.pinned (OpenSpec.ofChange fnExactStateWordSpec)

/-- ITS FALSE NEIGHBOUR: 'it returns false'. Refute it at one input. -/
def fnExactStateWordWrong : ChangeSpec := { name := "fnExactStateWord", fn := fun _ => fun
  | [d] => { results := [.lit (.bool false)], args := [d] }
  | _ => none }
def FnExactStateWordWrongFalsely : Prop := fnExactStateWordRow.holds Try.pinned (OpenSpec.ofChange fnExactStateWordWrong)

/-- 'laws.FnExactVerdictWord': WHATEVER THE INPUT: true; the input reads as it did. -/
def fnExactVerdictWordSpec : ChangeSpec := { name := "fnExactVerdictWord", fn := fun _ => fun
  | [d] => { results := [.lit (.bool true)], args := [d] }
  | _ => none }
def fnExactVerdictWordRow : OpenClaim := { program := "ytomllckfbkiolaa", sum := "f26acc46050f6c7d0c53a35af58bb5eca3759806876334c979627d44396dec9d", func := "loop.example/g00504/laws.FnExactVerdictWord", spec := "fnExactVerdictWord", apart := false }
def FnExactVerdictWordSaid : Prop := fnExactVerdictWordRow.holds Try.pinned (OpenSpec.ofChange fnExactVerdictWordSpec)

/-- ITS FALSE NEIGHBOUR: 'it returns false'. Refute it at one input. -/
def fnExactVerdictWordWrong : ChangeSpec := { name := "fnExactVerdictWord", fn := fun _ => fun
  | [d] => { results := [.lit (.bool false)], args := [d] }
  | _ => none }
def FnExactVerdictWordWrongFalsely : Prop := fnExactVerdictWordRow.holds Try.pinned (OpenSpec.ofChange fnExactVerdictWordWrong)

/-- 'laws.FnExactLimitsOk': WHATEVER THE INPUT: true; the input reads as it did. -/
def fnExactLimitsOkSpec : ChangeSpec := { name := "fnExactLimitsOk", fn := fun _ => fun
  | [d] => { results := [.lit (.bool true)], args := [d] }
  | _ => none }
def fnExactLimitsOkRow : OpenClaim := { program := "ytomllckfbkiolaa", sum := "f26acc46050f6c7d0c53a35af58bb5eca3759806876334c979627d44396dec9d", func := "loop.example/g00504/laws.FnExactLimitsOk", spec := "fnExactLimitsOk", apart := false }
def FnExactLimitsOkSaid : Prop := fnExactLimitsOkRow.holds Try.pinned (OpenSpec.ofChange fnExactLimitsOkSpec)

/-- ITS FALSE NEIGHBOUR: 'it returns false'. Refute it at one input. -/
def fnExactLimitsOkWrong : ChangeSpec := { name := "fnExactLimitsOk", fn := fun _ => fun
  | [d] => { results := [.lit (.bool false)], args := [d] }
  | _ => none }
def FnExactLimitsOkWrongFalsely : Prop := fnExactLimitsOkRow.holds Try.pinned (OpenSpec.ofChange fnExactLimitsOkWrong)

/-- 'laws.FnExactKeptOptions': WHATEVER THE INPUT: true; the input reads as it did. -/
def fnExactKeptOptionsSpec : ChangeSpec := { name := "fnExactKeptOptions", fn := fun _ => fun
  | [d] => { results := [.lit (.bool true)], args := [d] }
  | _ => none }
def fnExactKeptOptionsRow : OpenClaim := { program := "ytomllckfbkiolaa", sum := "f26acc46050f6c7d0c53a35af58bb5eca3759806876334c979627d44396dec9d", func := "loop.example/g00504/laws.FnExactKeptOptions", spec := "fnExactKeptOptions", apart := false }
def FnExactKeptOptionsSaid : Prop := fnExactKeptOptionsRow.holds Try.pinned (OpenSpec.ofChange fnExactKeptOptionsSpec)

/-- ITS FALSE NEIGHBOUR: 'it returns false'. Refute it at one input. -/
def fnExactKeptOptionsWrong : ChangeSpec := { name := "fnExactKeptOptions", fn := fun _ => fun
  | [d] => { results := [.lit (.bool false)], args := [d] }
  | _ => none }
def FnExactKeptOptionsWrongFalsely : Prop := fnExactKeptOptionsRow.holds Try.pinned (OpenSpec.ofChange fnExactKeptOptionsWrong)

/-- 'laws.FnExactFindHalf': WHATEVER THE INPUT: true; the input reads as it did. -/
def fnExactFindHalfSpec : ChangeSpec := { name := "fnExactFindHalf", fn := fun _ => fun
  | [d1, d2] => { results := [.lit (.bool true)], args := [d1, d2] }
  | _ => none }
def fnExactFindHalfRow : OpenClaim := { program := "ytomllckfbkiolaa", sum := "f26acc46050f6c7d0c53a35af58bb5eca3759806876334c979627d44396dec9d", func := "loop.example/g00504/laws.FnExactFindHalf", spec := "fnExactFindHalf", unfollowed := true, recurses := true, apart := false }
def FnExactFindHalfSaid : Prop := fnExactFindHalfRow.holds Try.pinned (OpenSpec.ofChange fnExactFindHalfSpec)

/-- ITS FALSE NEIGHBOUR: 'it returns false'. Refute it at one input. -/
def fnExactFindHalfWrong : ChangeSpec := { name := "fnExactFindHalf", fn := fun _ => fun
  | [d1, d2] => { results := [.lit (.bool false)], args := [d1, d2] }
  | _ => none }
def FnExactFindHalfWrongFalsely : Prop := fnExactFindHalfRow.holds Try.pinned (OpenSpec.ofChange fnExactFindHalfWrong)

/-- 'laws.FnKept': WHATEVER THE INPUT: true; the input reads as it did. -/
def fnKeptSpec : ChangeSpec := { name := "fnKept", fn := fun _ => fun
  | [d] => { results := [.lit (.bool true)], args := [d] }
  | _ => none }
def fnKeptRow : OpenClaim := { program := "ytomllckfbkiolaa", sum := "f26acc46050f6c7d0c53a35af58bb5eca3759806876334c979627d44396dec9d", func := "loop.example/g00504/laws.FnKept", spec := "fnKept", apart := false }
def FnKeptSaid : Prop := fnKeptRow.holds Try.pinned (OpenSpec.ofChange fnKeptSpec)

/-- ITS FALSE NEIGHBOUR: 'it returns false'. Refute it at one input. -/
def fnKeptWrong : ChangeSpec := { name := "fnKept", fn := fun _ => fun
  | [d] => { results := [.lit (.bool false)], args := [d] }
  | _ => none }
def FnKeptWrongFalsely : Prop := fnKeptRow.holds Try.pinned (OpenSpec.ofChange fnKeptWrong)

/-- 'laws.FnExactSameHalves': WHATEVER THE INPUT: true; the input reads as it did. -/
def fnExactSameHalvesSpec : ChangeSpec := { name := "fnExactSameHalves", fn := fun _ => fun
  | [d1, d2] => { results := [.lit (.bool true)], args := [d1, d2] }
  | _ => none }
def fnExactSameHalvesRow : OpenClaim := { program := "ytomllckfbkiolaa", sum := "f26acc46050f6c7d0c53a35af58bb5eca3759806876334c979627d44396dec9d", func := "loop.example/g00504/laws.FnExactSameHalves", spec := "fnExactSameHalves", apart := false }
def FnExactSameHalvesSaid : Prop := fnExactSameHalvesRow.holds Try.pinned (OpenSpec.ofChange fnExactSameHalvesSpec)

/-- ITS FALSE NEIGHBOUR: 'it returns false'. Refute it at one input. -/
def fnExactSameHalvesWrong : ChangeSpec := { name := "fnExactSameHalves", fn := fun _ => fun
  | [d1, d2] => { results := [.lit (.bool false)], args := [d1, d2] }
  | _ => none }
def FnExactSameHalvesWrongFalsely : Prop := fnExactSameHalvesRow.holds Try.pinned (OpenSpec.ofChange fnExactSameHalvesWrong)

/-- 'laws.FnExactResetFor': WHATEVER THE INPUT: true; the input reads as it did. -/
def fnExactResetForSpec : ChangeSpec := { name := "fnExactResetFor", fn := fun _ => fun
  | [d] => { results := [.lit (.bool true)], args := [d] }
  | _ => none }
def fnExactResetForRow : OpenClaim := { program := "ytomllckfbkiolaa", sum := "f26acc46050f6c7d0c53a35af58bb5eca3759806876334c979627d44396dec9d", func := "loop.example/g00504/laws.FnExactResetFor", spec := "fnExactResetFor", apart := false }
def FnExactResetForSaid : Prop := fnExactResetForRow.holds Try.pinned (OpenSpec.ofChange fnExactResetForSpec)

/-- ITS FALSE NEIGHBOUR: 'it returns false'. Refute it at one input. -/
def fnExactResetForWrong : ChangeSpec := { name := "fnExactResetFor", fn := fun _ => fun
  | [d] => { results := [.lit (.bool false)], args := [d] }
  | _ => none }
def FnExactResetForWrongFalsely : Prop := fnExactResetForRow.holds Try.pinned (OpenSpec.ofChange fnExactResetForWrong)

/-- 'laws.FnExactHalvesOk': WHATEVER THE INPUT: true; the input reads as it did. -/
def fnExactHalvesOkSpec : ChangeSpec := { name := "fnExactHalvesOk", fn := fun _ => fun
  | [d] => { results := [.lit (.bool true)], args := [d] }
  | _ => none }
def fnExactHalvesOkRow : OpenClaim := { program := "ytomllckfbkiolaa", sum := "f26acc46050f6c7d0c53a35af58bb5eca3759806876334c979627d44396dec9d", func := "loop.example/g00504/laws.FnExactHalvesOk", spec := "fnExactHalvesOk", unfollowed := true, recurses := true, apart := false }
def FnExactHalvesOkSaid : Prop := fnExactHalvesOkRow.holds Try.pinned (OpenSpec.ofChange fnExactHalvesOkSpec)

/-- ITS FALSE NEIGHBOUR: 'it returns false'. Refute it at one input. -/
def fnExactHalvesOkWrong : ChangeSpec := { name := "fnExactHalvesOk", fn := fun _ => fun
  | [d] => { results := [.lit (.bool false)], args := [d] }
  | _ => none }
def FnExactHalvesOkWrongFalsely : Prop := fnExactHalvesOkRow.holds Try.pinned (OpenSpec.ofChange fnExactHalvesOkWrong)

/-- 'laws.FnResetFor': WHATEVER THE INPUT: true; the input reads as it did. -/
def fnResetForSpec : ChangeSpec := { name := "fnResetFor", fn := fun _ => fun
  | [d] => { results := [.lit (.bool true)], args := [d] }
  | _ => none }
def fnResetForRow : OpenClaim := { program := "ytomllckfbkiolaa", sum := "f26acc46050f6c7d0c53a35af58bb5eca3759806876334c979627d44396dec9d", func := "loop.example/g00504/laws.FnResetFor", spec := "fnResetFor", apart := false }
def FnResetForSaid : Prop := fnResetForRow.holds Try.pinned (OpenSpec.ofChange fnResetForSpec)

/-- ITS FALSE NEIGHBOUR: 'it returns false'. Refute it at one input. -/
def fnResetForWrong : ChangeSpec := { name := "fnResetFor", fn := fun _ => fun
  | [d] => { results := [.lit (.bool false)], args := [d] }
  | _ => none }
def FnResetForWrongFalsely : Prop := fnResetForRow.holds Try.pinned (OpenSpec.ofChange fnResetForWrong)

/-- 'laws.FnExactUnsent': WHATEVER THE INPUT: true; the input reads as it did. -/
def fnExactUnsentSpec : ChangeSpec := { name := "fnExactUnsent", fn := fun _ => fun
  | [d] => { results := [.lit (.bool true)], args := [d] }
  | _ => none }
def fnExactUnsentRow : OpenClaim := { program := "ytomllckfbkiolaa", sum := "f26acc46050f6c7d0c53a35af58bb5eca3759806876334c979627d44396dec9d", func := "loop.example/g00504/laws.FnExactUnsent", spec := "fnExactUnsent", apart := false }
def FnExactUnsentSaid : Prop := fnExactUnsentRow.holds Try.pinned (OpenSpec.ofChange fnExactUnsentSpec)

/-- ITS FALSE NEIGHBOUR: 'it returns false'. Refute it at one input. -/
def fnExactUnsentWrong : ChangeSpec := { name := "fnExactUnsent", fn := fun _ => fun
  | [d] => { results := [.lit (.bool false)], args := [d] }
  | _ => none }
def FnExactUnsentWrongFalsely : Prop := fnExactUnsentRow.holds Try.pinned (OpenSpec.ofChange fnExactUnsentWrong)

/- THE SECOND FORM. 'bulk': how many values and letters a reading holds, each counted each time it is reached (what is shared counts as often as it is met; a slice's spare places count too). A statement '..UptoSaid' is the law's where the arguments, and the package variables that the reading takes, are together of bulk at most 1048576: NARROWER than '..Said'. Prove '..Said' where nothing that the law and all that it calls make is longer than what came in: it says more and counts as full. Else prove '..UptoSaid'. A law counts once. -/
mutual
def uptoBulk {H : Type} : DataW H → Nat
  | .lit (.string bytes) => bytes.length + 1
  | .lit _ => 1
  | .nil => 1
  | .ptr d => uptoBulk d + 1
  | .slice elems spare => uptoBulkAll elems + uptoBulkAll spare + 1
  | .agg parts => uptoBulkAll parts + 1
  | .iface _ d => uptoBulk d + 1
  | .map entries => uptoBulkEntries entries + 1
  | .held _ => 1
def uptoBulkAll {H : Type} : List (DataW H) → Nat
  | [] => 0
  | d :: r => uptoBulk d + uptoBulkAll r
def uptoBulkEntries {H : Type} : List (Lit × DataW H) → Nat
  | [] => 0
  | x :: r => uptoBulkEntry x + uptoBulkEntries r
def uptoBulkEntry {H : Type} : Lit × DataW H → Nat
  | (.string bytes, d) => bytes.length + uptoBulk d + 1
  | (_, d) => uptoBulk d + 1
 end
def uptoSmall : (H : Type) → List (DataW H) → Bool := fun _ ds => decide (uptoBulkAll ds ≤ 1048576)
def OpenSpec.upto (s : _root_.Go.ChangeSpec) : _root_.Go.OpenSpec := { _root_.Go.OpenSpec.ofChange s with cond := some uptoSmall }

/-- 'laws.FnExactStateWord', WHERE WHAT IT READS IS OF BULK AT MOST 1048576: true; the input reads as it did. -/
def fnExactStateWordUptoRow : OpenClaim := { program := "ytomllckfbkiolaa", sum := "f26acc46050f6c7d0c53a35af58bb5eca3759806876334c979627d44396dec9d", func := "loop.example/g00504/laws.FnExactStateWord", spec := "fnExactStateWord", apart := false, narrowed := true }
def FnExactStateWordUptoSaid : Prop := fnExactStateWordUptoRow.holds Try.pinned (OpenSpec.upto fnExactStateWordSpec)

/-- 'laws.FnExactVerdictWord', WHERE WHAT IT READS IS OF BULK AT MOST 1048576: true; the input reads as it did. -/
def fnExactVerdictWordUptoRow : OpenClaim := { program := "ytomllckfbkiolaa", sum := "f26acc46050f6c7d0c53a35af58bb5eca3759806876334c979627d44396dec9d", func := "loop.example/g00504/laws.FnExactVerdictWord", spec := "fnExactVerdictWord", apart := false, narrowed := true }
def FnExactVerdictWordUptoSaid : Prop := fnExactVerdictWordUptoRow.holds Try.pinned (OpenSpec.upto fnExactVerdictWordSpec)

/-- 'laws.FnExactLimitsOk', WHERE WHAT IT READS IS OF BULK AT MOST 1048576: true; the input reads as it did. -/
def fnExactLimitsOkUptoRow : OpenClaim := { program := "ytomllckfbkiolaa", sum := "f26acc46050f6c7d0c53a35af58bb5eca3759806876334c979627d44396dec9d", func := "loop.example/g00504/laws.FnExactLimitsOk", spec := "fnExactLimitsOk", apart := false, narrowed := true }
def FnExactLimitsOkUptoSaid : Prop := fnExactLimitsOkUptoRow.holds Try.pinned (OpenSpec.upto fnExactLimitsOkSpec)

/-- 'laws.FnExactKeptOptions', WHERE WHAT IT READS IS OF BULK AT MOST 1048576: true; the input reads as it did. -/
def fnExactKeptOptionsUptoRow : OpenClaim := { program := "ytomllckfbkiolaa", sum := "f26acc46050f6c7d0c53a35af58bb5eca3759806876334c979627d44396dec9d", func := "loop.example/g00504/laws.FnExactKeptOptions", spec := "fnExactKeptOptions", apart := false, narrowed := true }
def FnExactKeptOptionsUptoSaid : Prop := fnExactKeptOptionsUptoRow.holds Try.pinned (OpenSpec.upto fnExactKeptOptionsSpec)

/-- 'laws.FnExactFindHalf', WHERE WHAT IT READS IS OF BULK AT MOST 1048576: true; the input reads as it did. -/
def fnExactFindHalfUptoRow : OpenClaim := { program := "ytomllckfbkiolaa", sum := "f26acc46050f6c7d0c53a35af58bb5eca3759806876334c979627d44396dec9d", func := "loop.example/g00504/laws.FnExactFindHalf", spec := "fnExactFindHalf", unfollowed := true, recurses := true, apart := false, narrowed := true }
def FnExactFindHalfUptoSaid : Prop := fnExactFindHalfUptoRow.holds Try.pinned (OpenSpec.upto fnExactFindHalfSpec)

/-- 'laws.FnKept', WHERE WHAT IT READS IS OF BULK AT MOST 1048576: true; the input reads as it did. -/
def fnKeptUptoRow : OpenClaim := { program := "ytomllckfbkiolaa", sum := "f26acc46050f6c7d0c53a35af58bb5eca3759806876334c979627d44396dec9d", func := "loop.example/g00504/laws.FnKept", spec := "fnKept", apart := false, narrowed := true }
def FnKeptUptoSaid : Prop := fnKeptUptoRow.holds Try.pinned (OpenSpec.upto fnKeptSpec)

/-- 'laws.FnExactSameHalves', WHERE WHAT IT READS IS OF BULK AT MOST 1048576: true; the input reads as it did. -/
def fnExactSameHalvesUptoRow : OpenClaim := { program := "ytomllckfbkiolaa", sum := "f26acc46050f6c7d0c53a35af58bb5eca3759806876334c979627d44396dec9d", func := "loop.example/g00504/laws.FnExactSameHalves", spec := "fnExactSameHalves", apart := false, narrowed := true }
def FnExactSameHalvesUptoSaid : Prop := fnExactSameHalvesUptoRow.holds Try.pinned (OpenSpec.upto fnExactSameHalvesSpec)

/-- 'laws.FnExactResetFor', WHERE WHAT IT READS IS OF BULK AT MOST 1048576: true; the input reads as it did. -/
def fnExactResetForUptoRow : OpenClaim := { program := "ytomllckfbkiolaa", sum := "f26acc46050f6c7d0c53a35af58bb5eca3759806876334c979627d44396dec9d", func := "loop.example/g00504/laws.FnExactResetFor", spec := "fnExactResetFor", apart := false, narrowed := true }
def FnExactResetForUptoSaid : Prop := fnExactResetForUptoRow.holds Try.pinned (OpenSpec.upto fnExactResetForSpec)

/-- 'laws.FnExactHalvesOk', WHERE WHAT IT READS IS OF BULK AT MOST 1048576: true; the input reads as it did. -/
def fnExactHalvesOkUptoRow : OpenClaim := { program := "ytomllckfbkiolaa", sum := "f26acc46050f6c7d0c53a35af58bb5eca3759806876334c979627d44396dec9d", func := "loop.example/g00504/laws.FnExactHalvesOk", spec := "fnExactHalvesOk", unfollowed := true, recurses := true, apart := false, narrowed := true }
def FnExactHalvesOkUptoSaid : Prop := fnExactHalvesOkUptoRow.holds Try.pinned (OpenSpec.upto fnExactHalvesOkSpec)

/-- 'laws.FnResetFor', WHERE WHAT IT READS IS OF BULK AT MOST 1048576: true; the input reads as it did. -/
def fnResetForUptoRow : OpenClaim := { program := "ytomllckfbkiolaa", sum := "f26acc46050f6c7d0c53a35af58bb5eca3759806876334c979627d44396dec9d", func := "loop.example/g00504/laws.FnResetFor", spec := "fnResetFor", apart := false, narrowed := true }
def FnResetForUptoSaid : Prop := fnResetForUptoRow.holds Try.pinned (OpenSpec.upto fnResetForSpec)

/-- 'laws.FnExactUnsent', WHERE WHAT IT READS IS OF BULK AT MOST 1048576: true; the input reads as it did. -/
def fnExactUnsentUptoRow : OpenClaim := { program := "ytomllckfbkiolaa", sum := "f26acc46050f6c7d0c53a35af58bb5eca3759806876334c979627d44396dec9d", func := "loop.example/g00504/laws.FnExactUnsent", spec := "fnExactUnsent", apart := false, narrowed := true }
def FnExactUnsentUptoSaid : Prop := fnExactUnsentUptoRow.holds Try.pinned (OpenSpec.upto fnExactUnsentSpec)

end Rows
end Go.Proofs.Ytomllckfbkiolaa
