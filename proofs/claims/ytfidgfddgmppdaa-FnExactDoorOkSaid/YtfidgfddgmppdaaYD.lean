/- Contracts (YD). -/
import Derived.Test.YtfidgfddgmppdaaG1
namespace Go.Proofs.Ytfidgfddgmppdaa
open Go.RowKit
set_option linter.unusedVariables false
set_option linter.unusedSimpArgs false
set_option maxRecDepth 100000
theorem sameL_nil_of {α : Type} {eq : α → α → Bool} {a b : List α} {k : Nat} (hk : k = a.length) (hl : a.length = b.length) (h : ∀ (i : Nat) (x y : α), i < k → a[i]? = some x → b[i]? = some y → eq x y = true) : dt eq a b = true :=
 sameL_yes hl fun i x y h1 h2 => h i x y (by rw [hk]; exact (List.getElem?_eq_some_iff.1 h1).1) h1 h2
theorem same_step {α : Type} {eq : α → α → Bool} {a b : List α} {k : Nat} {x y : α} (hx : a[k]? = some x) (hy : b[k]? = some y) (he : eq x y = true) (h : ∀ (i : Nat) (x y : α), i < k → a[i]? = some x → b[i]? = some y → eq x y = true) :
   ∀ (i : Nat) (x y : α),i < k + 1 → a[i]? = some x → b[i]? = some y → eq x y = true := fun i x' y' hi h1 h2 => by
 rcases Nat.lt_succ_iff_lt_or_eq.1 hi with hi | rfl
 · exact h i x' y' hi h1 h2
 · rw [hx] at h1; rw [hy] at h2; simp only [Option.some.injEq] at h1 h2; subst h1; subst h2; exact he
end Go.Proofs.Ytfidgfddgmppdaa
