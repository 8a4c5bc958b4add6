/- Plain laws: what is taken, turned, acceptable (no program in sight). -/
import Derived.Test.YtnmmhbhdcplfmaaMJ
import Derived.Test.YtnmmhbhdcplfmaaMN
namespace Go.Proofs.Ytnmmhbhdcplfmaa
open Go.RowKit
theorem segLen_nn (g : Seg) : 0 ≤ segLen g := by unfold segLen; split <;> split <;> omega
theorem acc_len {c : Con} {g : Seg} (h : 0 < segLen g) (ha : acceptable c g = true) : 0 < windowOf c.r := by
  unfold acceptable at ha; rw [if_neg (by omega)] at ha
  unfold overlaps at ha; simp only [Bool.and_eq_true, decide_eq_true_eq] at ha; omega
theorem seqDiff_zero (a b : Int) : seqDiff a b = 0 ↔ a % 4294967296 = b % 4294967296 := by unfold seqDiff; split <;> omega
theorem acc_none {c : Con} {g : Seg} (h : ¬ 0 < segLen g) : acceptable c g = (decide (g.seq % 4294967296 = c.r.next % 4294967296) || inWindow g.seq c.r.next (windowOf c.r)) := by
  have := segLen_nn g
  unfold acceptable; rw [if_pos (by omega)]
  congr 1; rw [decide_eq_decide]; exact seqDiff_zero _ _
end Go.Proofs.Ytnmmhbhdcplfmaa
