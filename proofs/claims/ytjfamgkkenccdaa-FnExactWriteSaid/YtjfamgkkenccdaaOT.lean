/- Opening a text argument. -/
import Derived.Test.YtjfamgkkenccdaaOS
namespace Go.Proofs.Ytjfamgkkenccdaa
open Go.RowKit Go.ChangeShapes Go.WideShapes
set_option linter.unusedVariables false
set_option maxRecDepth 100000 in
theorem openS_str {H : Type} {enc : TypeId × Value → H} {W : World} {v : Value} {d : DataW H} {p : List MemPlace} {b0 : Nat} (hv : Value.okWide Try.prog W .any b0 9 v)
    (h : DataW.Trod enc Try.prog W 0 (fun _ => true) true 9 v d p) : ∃ s : ByteArray, v = .string s ∧ s.size ≤ maxLen := by
  obtain ⟨s, rfl⟩ := okWide_string Try.underlying9 hv
  obtain ⟨fuel, hf⟩ := h
  obtain ⟨m, e, -, w⟩ := DataW.trod_string Try.underlying9 hf
  simp [Value.cells] at e; subst e; exact ⟨_, rfl, w⟩
end Go.Proofs.Ytjfamgkkenccdaa
