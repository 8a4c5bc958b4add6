/- Plain laws: a new connection (no program in sight). -/
import Derived.Test.YtnmmhbhdcplfmaaMH
import Derived.Test.YtnmmhbhdcplfmaaYD
namespace Go.Proofs.Ytnmmhbhdcplfmaa
open Go.RowKit
theorem sameL_self {α : Type} {eq : α → α → Bool} (h : ∀ x, eq x x = true) (l : List α) : sameL eq l l = true := sameL_yes rfl fun i x y h1 h2 => by
  rw [h1] at h2; simp only [Option.some.injEq] at h2; subst h2; exact h x
theorem sameConn_self (c : Con) : sameConn c c = true := by
  simp [sameConn, sameReceiver, tupEq, sndEq, optEq, sameL_self (eq := pceEq) (fun x => by simp [pceEq])]
end Go.Proofs.Ytnmmhbhdcplfmaa
