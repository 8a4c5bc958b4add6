/- Contracts: slices of arguments in the laws. -/
import Derived.Test.YtomllckfbkiolaaR
import Derived.Test.YtomllckfbkiolaaO
namespace Go.Proofs.Ytomllckfbkiolaa
open Go.RowKit
attribute [local go_sem] lt_gap le_gap eq_gap gap_eq
set_option linter.unusedVariables false
set_option linter.unusedSimpArgs false

theorem openSc_HLF {H : Type} {enc : TypeId × Value → H} {W : World} {v : Value} {fuel : Nat} {x : DataW H × List MemPlace}
    (h : DataW.trod enc Try.prog W 0 (fun _ => true) true fuel 37 [v] = some x) : ∃ l : List Hlf, Sl W v 13 (l.map hlfCells) := by
  have hc : Try.prog.cellsOf 92 = 13 := by kernel_rfl
  haveI : Inhabited Hlf := ⟨⟨⟨0, 0, 0⟩, 0, 0, ⟨0, 0, false, false, 0, 0⟩, 0, 0⟩⟩
  rcases Go.Deep.open_slice Try.underlying37 h with ⟨hcs, -⟩ | ⟨a, len, cap, m, n, D, Pl, hcs, hb, hl, hm, hmm, hx, hi⟩
  · simp only [List.cons.injEq, and_true] at hcs
    subst hcs
    exact ⟨[], Sl.nil W 13⟩
  · have hs : ∀ i, i < len → ∃ x : Hlf, W.cells? 0 (a.add (i * 13)) 13 = some (hlfCells x) := fun i hlt => by
      obtain ⟨cs', h1, h2⟩ := hi i (by simp at hmm; omega)
      rw [hc] at h1
      obtain ⟨a_t_ip, a_t_port, a_t_my, a_iss, a_irs, a_o_mss, a_o_scale, a_o_sack, a_o_stamp, a_o_val, a_o_echo, a_age, a_window, rfl, -, -, -, -, -, -, -, -, -, -, -⟩ := open_HLF h2
      exact ⟨⟨⟨a_t_ip, a_t_port, a_t_my⟩, a_iss, a_irs, ⟨a_o_mss, a_o_scale, a_o_sack, a_o_stamp, a_o_val, a_o_echo⟩, a_age, a_window⟩, h1⟩
    obtain ⟨f, hf⟩ := Go.Deep.choose_lt hs
    refine ⟨(List.range len).map f, ?_⟩
    simp only [List.cons.injEq, and_true] at hcs
    rw [hcs, List.map_map]
    exact Sl.of_open hl hm (by omega) hf
set_option maxRecDepth 100000 in
theorem openS_HLF {H : Type} {enc : TypeId × Value → H} {W : World} {v : Value} {d : DataW H} {p : List MemPlace} {b0 : Nat} (hv : Value.okWide Try.prog W .any b0 37 v)
    (h : DataW.Trod enc Try.prog W 0 (fun _ => true) true 37 v d p) : ∃ l : List Hlf, Sl W v 13 (l.map hlfCells) := by
  obtain ⟨a0, len0, cap0, rfl⟩ := Go.WideShapes.okWide_slice Try.underlying37 hv
  obtain ⟨fuel, hf⟩ := h
  exact openSc_HLF hf
theorem openSc_PCE {H : Type} {enc : TypeId × Value → H} {W : World} {v : Value} {fuel : Nat} {x : DataW H × List MemPlace}
    (h : DataW.trod enc Try.prog W 0 (fun _ => true) true fuel 69 [v] = some x) : ∃ l : List Pce, Sl W v 2 (l.map pceCells) := by
  have hc : Try.prog.cellsOf 126 = 2 := by kernel_rfl
  haveI : Inhabited Pce := ⟨⟨0, ⟨#[]⟩⟩⟩
  rcases Go.Deep.open_slice Try.underlying69 h with ⟨hcs, -⟩ | ⟨a, len, cap, m, n, D, Pl, hcs, hb, hl, hm, hmm, hx, hi⟩
  · simp only [List.cons.injEq, and_true] at hcs
    subst hcs
    exact ⟨[], Sl.nil W 2⟩
  · have hs : ∀ i, i < len → ∃ x : Pce, W.cells? 0 (a.add (i * 2)) 2 = some (pceCells x) := fun i hlt => by
      obtain ⟨cs', h1, h2⟩ := hi i (by simp at hmm; omega)
      rw [hc] at h1
      obtain ⟨a_off, a_text, rfl, -, -⟩ := open_PCE h2
      exact ⟨⟨a_off, a_text⟩, h1⟩
    obtain ⟨f, hf⟩ := Go.Deep.choose_lt hs
    refine ⟨(List.range len).map f, ?_⟩
    simp only [List.cons.injEq, and_true] at hcs
    rw [hcs, List.map_map]
    exact Sl.of_open hl hm (by omega) hf
set_option maxRecDepth 100000 in
theorem openS_PCE {H : Type} {enc : TypeId × Value → H} {W : World} {v : Value} {d : DataW H} {p : List MemPlace} {b0 : Nat} (hv : Value.okWide Try.prog W .any b0 69 v)
    (h : DataW.Trod enc Try.prog W 0 (fun _ => true) true 69 v d p) : ∃ l : List Pce, Sl W v 2 (l.map pceCells) := by
  obtain ⟨a0, len0, cap0, rfl⟩ := Go.WideShapes.okWide_slice Try.underlying69 hv
  obtain ⟨fuel, hf⟩ := h
  exact openSc_PCE hf
end Go.Proofs.Ytomllckfbkiolaa
