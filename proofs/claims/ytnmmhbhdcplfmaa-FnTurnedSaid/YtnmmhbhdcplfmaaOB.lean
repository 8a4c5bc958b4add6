/- Opening an argument of bytes. -/
import Derived.Test.YtnmmhbhdcplfmaaOS
import Derived.Test.YtnmmhbhdcplfmaaXL
namespace Go.Proofs.Ytnmmhbhdcplfmaa
open Go.RowKit Go.ChangeShapes Go.WideShapes
set_option linter.unusedVariables false
set_option maxRecDepth 100000 in
theorem openS_byte {H : Type} {enc : TypeId × Value → H} {W : World} {v : Value} {d : DataW H} {p : List MemPlace} {b0 : Nat} (hv : Value.okWide Try.prog W .any b0 22 v)
    (h : DataW.Trod enc Try.prog W 0 (fun _ => true) true 22 v d p) : ∃ l : List Int, Sl W v 1 (l.map byteRow) := by
  obtain ⟨a0, len0, cap0, rfl⟩ := Go.WideShapes.okWide_slice Try.underlying22 hv
  obtain ⟨fuel, hf⟩ := h
  have hc : Try.prog.cellsOf 5 = 1 := by kernel_rfl
  rcases Go.Deep.open_slice Try.underlying22 hf with ⟨hcs, -⟩ | ⟨a, len, cap, m, n, D, Pl, hcs, hb, hl, hm, hmm, hx, hi⟩
  · simp only [Value.cells, List.cons.injEq, and_true] at hcs
    have hcs' : Value.slice a0 len0 cap0 = .slice none 0 0 := by simpa using hcs
    rw [hcs']
    exact ⟨[], Sl.nil W 1⟩
  · have hs : ∀ i, i < len → ∃ x : Int, W.cells? 0 (a.add (i * 1)) 1 = some (byteRow x) := fun i hlt => by
      obtain ⟨cs', h1, h2⟩ := hi i (by simp at hmm; omega)
      rw [hc] at h1
      obtain ⟨k, e, -, -⟩ := DataW.trod_int Try.underlying5 h2
      subst e
      exact ⟨k, h1⟩
    obtain ⟨f, hf⟩ := Go.Deep.choose_lt hs
    refine ⟨(List.range len).map f, ?_⟩
    have hcs' : Value.slice a0 len0 cap0 = .slice (some a) len cap := by simpa [Value.cells] using hcs
    rw [hcs', List.map_map]
    exact Sl.of_open hl hm (by omega) hf
end Go.Proofs.Ytnmmhbhdcplfmaa
