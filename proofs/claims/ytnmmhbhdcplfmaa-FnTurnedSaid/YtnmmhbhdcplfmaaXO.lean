/- The machine: a row of the call's own, cut in place. -/
import Derived.Test.YtnmmhbhdcplfmaaXN
import Derived.ArgAppend
namespace Go.Proofs.Ytnmmhbhdcplfmaa
open Go.RowKit
set_option linter.unusedVariables false
set_option linter.unusedSimpArgs false
section
variable {P : Program} {n : Nat} {w0 : World} {QX : Exit → St → Prop} {st st' : St} {ops : Array Oper} {l : List Oper} {ρ : Nat → Nat} {σ : Nat → Nat × Nat} {a : Act}
theorem chgd_cells {w : World} {g o : Nat} {cs : List Value} {S : Nat → Prop} (hS : S g) : Chgd S w (w.setCells g o cs) := by
  obtain ⟨h1, h2, h3⟩ := setCells_streams g cs o w
  exact ⟨h1, h2, h3, Nat.le_of_eq (setCells_size g cs o w).symm, fun k _ hk => setCells_other g cs o w k (fun e => hk (e ▸ hS))⟩
end
end Go.Proofs.Ytnmmhbhdcplfmaa
