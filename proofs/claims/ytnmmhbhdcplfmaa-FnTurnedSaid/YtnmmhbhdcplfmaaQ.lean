/- Plain lemmas on lists (no program in sight). -/
import Derived.Test.YtnmmhbhdcplfmaaM
namespace Go.Proofs.Ytnmmhbhdcplfmaa
theorem overlaps_yes {x n from_ size i : Int} (h0 : 0 ≤ i) (h1 : i < n) (h2 : i < 65536) (h : inWindow ((x + i) % 4294967296) from_ size = true) : overlaps x n from_ size = true := by
  simp only [inWindow, overlaps, Bool.and_eq_true, Bool.or_eq_true, decide_eq_true_eq] at *
  omega
theorem overlaps_no {x n from_ size : Int} (h : ∀ i : Int, 0 ≤ i → i < n → i < 65536 → inWindow ((x + i) % 4294967296) from_ size = false) : overlaps x n from_ size = false := by
  cases ho : overlaps x n from_ size
  · rfl
  simp only [inWindow, overlaps, Bool.and_eq_true, Bool.or_eq_true, decide_eq_true_eq] at ho
  obtain ⟨h1, h2, h3⟩ := ho
  rcases h3 with h3 | h3
  · have := h 0 (by omega) (by omega) (by omega)
    simp only [inWindow, Bool.and_eq_false_iff, decide_eq_false_iff_not] at this
    omega
  · have := h ((from_ - x) % 4294967296) (by omega) (by omega) (by omega)
    simp only [inWindow, Bool.and_eq_false_iff, decide_eq_false_iff_not] at this
    omega
def sameL {α : Type} (eq : α → α → Bool) (a b : List α) : Bool := decide (a.length = b.length) && (List.range a.length).all fun i => match a[i]?, b[i]? with | some x, some y => eq x y | _, _ => true
theorem sameL_len {α : Type} {eq : α → α → Bool} {a b : List α} (h : ¬ a.length = b.length) : sameL eq a b = false := by simp [sameL, h]
theorem sameL_no {α : Type} {eq : α → α → Bool} {a b : List α} {k : Nat} {x y : α} (hx : a[k]? = some x) (hy : b[k]? = some y) (h : eq x y = false) : sameL eq a b = false := by
  unfold sameL
  rw [Bool.and_eq_false_iff]
  right
  rw [List.all_eq_false]
  exact ⟨k, List.mem_range.2 (List.getElem?_eq_some_iff.1 hx).1, by simp [hx, hy, h]⟩
theorem sameL_yes {α : Type} {eq : α → α → Bool} {a b : List α} (hl : a.length = b.length) (h : ∀ (k : Nat) (x y : α), a[k]? = some x → b[k]? = some y → eq x y = true) : sameL eq a b = true := by
  simp only [sameL, hl, decide_true, Bool.true_and, List.all_eq_true, List.mem_range]
  intro i hi
  have h1 : a[i]? = some (a[i]'(by omega)) := List.getElem?_eq_getElem (by omega)
  have h2 : b[i]? = some (b[i]'hi) := List.getElem?_eq_getElem hi
  rw [h1, h2]
  exact h i _ _ h1 h2
end Go.Proofs.Ytnmmhbhdcplfmaa
