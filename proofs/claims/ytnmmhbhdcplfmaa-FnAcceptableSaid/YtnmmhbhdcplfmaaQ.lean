/- Plain lemmas on lists (no program in sight). -/
import Derived.Test.YtnmmhbhdcplfmaaM
namespace Go.Proofs.Ytnmmhbhdcplfmaa
theorem overlaps_yes {x n from_ size i : Int} (h0 : 0 ≤ i) (h1 : i < n) (h2 : i < 65536) (h : inWindow ((x + i) % 4294967296) from_ size = true) : overlaps x n from_ size = true := by
  simp only [inWindow, overlaps, Bool.and_eq_true, Bool.or_eq_true, decide_eq_true_eq] at *
  omega
theorem overlaps_no {x n from_ size : Int} (h : ∀ i : Int, 0 ≤ i → i < n → i < 65536 → inWindow ((x + i) % 4294967296) from_ size = false) : overlaps x n from_ size = false := by
  cases ho : overlaps x n from_ size
  · rfl
  simp only [inWindow, overlaps, Bool.and_eq_true, Bool.or_eq_true, decide_eq_true_eq] at ho
  obtain ⟨h1, h2, h3⟩ := ho
  rcases h3 with h3 | h3
  · have := h 0 (by omega) (by omega) (by omega)
    simp only [inWindow, Bool.and_eq_false_iff, decide_eq_false_iff_not] at this
    omega
  · have := h ((from_ - x) % 4294967296) (by omega) (by omega) (by omega)
    simp only [inWindow, Bool.and_eq_false_iff, decide_eq_false_iff_not] at this
    omega
end Go.Proofs.Ytnmmhbhdcplfmaa
