/- Contracts: slices of arguments in the laws. -/
import Derived.Test.YteoipoenbofemaaR
import Derived.Test.YteoipoenbofemaaO
namespace Go.Proofs.Yteoipoenbofemaa
open Go.RowKit
attribute [local go_sem] lt_gap le_gap eq_gap gap_eq lt_ones2 lt_ones3 lt_ones4 lt_ones5 lt_ones6 lt_ones7 lt_ones8 lt_gap_1 lt_gap_2 lt_gap_3 lt_gap_4 lt_gap_5 lt_gap_6 size_grow cell?_grow frozen?_grow setCell_grow drew_grow drewN_grow
attribute [local go_sem] boxOf_alloc_at boxOf_alloc_past boxOf_grow boxOf_drew boxOf_drewN isBox_alloc_at isBox_alloc_past isBox_grow isBox_drew isBox_drewN putAt_all putAt setCells_alloc_at setCells_alloc_past setCells_grow setCells_drew
set_option linter.unusedVariables false
set_option linter.unusedSimpArgs false

theorem openSc_HLF {H : Type} {enc : TypeId × Value → H} {W : World} {v : Value} {fuel : Nat} {x : DataW H × List MemPlace}
    (h : DataW.trod enc Try.prog W 0 (fun _ => true) true fuel 22 [v] = some x) : ∃ l : List Hlf, Sl W v 13 (l.map hlfCells) := by
  have hc : Try.prog.cellsOf 37 = 13 := by kernel_rfl
  haveI : Inhabited Hlf := ⟨⟨⟨0, 0, 0⟩, 0, 0, ⟨0, 0, false, false, 0, 0⟩, 0, 0⟩⟩
  rcases Go.Deep.open_slice Try.underlying22 h with ⟨hcs, -⟩ | ⟨a, len, cap, m, n, D, Pl, hcs, hb, hl, hm, hmm, hx, hi⟩
  · simp only [List.cons.injEq, and_true] at hcs
    subst hcs
    exact ⟨[], Sl.nil W 13⟩
  · have hs : ∀ i, i < len → ∃ x : Hlf, W.cells? 0 (a.add (i * 13)) 13 = some (hlfCells x) := fun i hlt => by
      obtain ⟨cs', h1, h2⟩ := hi i (by simp at hmm; omega)
      rw [hc] at h1
      obtain ⟨a_t_ip, a_t_port, a_t_my, a_iss, a_irs, a_o_mss, a_o_scale, a_o_sack, a_o_stamp, a_o_val, a_o_echo, a_age, a_window, rfl, -, -, -, -, -, -, -, -, -, -, -⟩ := open_HLF h2
      exact ⟨⟨⟨a_t_ip, a_t_port, a_t_my⟩, a_iss, a_irs, ⟨a_o_mss, a_o_scale, a_o_sack, a_o_stamp, a_o_val, a_o_echo⟩, a_age, a_window⟩, h1⟩
    obtain ⟨f, hf⟩ := Go.Deep.choose_lt hs
    refine ⟨(List.range len).map f, ?_⟩
    simp only [List.cons.injEq, and_true] at hcs
    rw [hcs, List.map_map]
    exact Sl.of_open hl hm (by omega) hf
set_option maxRecDepth 100000 in
theorem openS_HLF {H : Type} {enc : TypeId × Value → H} {W : World} {v : Value} {d : DataW H} {p : List MemPlace} {b0 : Nat} (hv : Value.okWide Try.prog W .any b0 22 v)
    (h : DataW.Trod enc Try.prog W 0 (fun _ => true) true 22 v d p) : ∃ l : List Hlf, Sl W v 13 (l.map hlfCells) := by
  obtain ⟨a0, len0, cap0, rfl⟩ := Go.WideShapes.okWide_slice Try.underlying22 hv
  obtain ⟨fuel, hf⟩ := h
  exact openSc_HLF hf
theorem openSc_PCE {H : Type} {enc : TypeId × Value → H} {W : World} {v : Value} {fuel : Nat} {x : DataW H × List MemPlace}
    (h : DataW.trod enc Try.prog W 0 (fun _ => true) true fuel 57 [v] = some x) : ∃ l : List Pce, Sl W v 2 (l.map pceCells) ∧ ∀ p ∈ l, p.text.size ≤ maxLen := by
  have hc : Try.prog.cellsOf 158 = 2 := by kernel_rfl
  haveI : Inhabited Pce := ⟨⟨0, ⟨#[]⟩⟩⟩
  rcases Go.Deep.open_slice Try.underlying57 h with ⟨hcs, -⟩ | ⟨a, len, cap, m, n, D, Pl, hcs, hb, hl, hm, hmm, hx, hi⟩
  · simp only [List.cons.injEq, and_true] at hcs
    subst hcs
    exact ⟨[], Sl.nil W 2, by simp⟩
  · have hs : ∀ i, i < len → ∃ x : Pce, W.cells? 0 (a.add (i * 2)) 2 = some (pceCells x) ∧ x.text.size ≤ maxLen := fun i hlt => by
      obtain ⟨cs', h1, h2⟩ := hi i (by simp at hmm; omega)
      rw [hc] at h1
      obtain ⟨a_off, a_text, rfl, _, _⟩ := open_PCE h2
      exact ⟨⟨a_off, a_text⟩, h1, by assumption⟩
    obtain ⟨f, hf⟩ := Go.Deep.choose_lt hs
    refine ⟨(List.range len).map f, ?_⟩
    simp only [List.cons.injEq, and_true] at hcs
    rw [hcs, List.map_map]
    exact ⟨Sl.of_open hl hm (by omega) (fun i h => (hf i h).1), fun p hp => by obtain ⟨i, hi, rfl⟩ := List.mem_map.1 hp; exact (hf i (List.mem_range.1 hi)).2⟩
set_option maxRecDepth 100000 in
theorem openS_PCE {H : Type} {enc : TypeId × Value → H} {W : World} {v : Value} {d : DataW H} {p : List MemPlace} {b0 : Nat} (hv : Value.okWide Try.prog W .any b0 57 v)
    (h : DataW.Trod enc Try.prog W 0 (fun _ => true) true 57 v d p) : ∃ l : List Pce, Sl W v 2 (l.map pceCells) ∧ ∀ p ∈ l, p.text.size ≤ maxLen := by
  obtain ⟨a0, len0, cap0, rfl⟩ := Go.WideShapes.okWide_slice Try.underlying57 hv
  obtain ⟨fuel, hf⟩ := h
  exact openSc_PCE hf
theorem openSc_TUP {H : Type} {enc : TypeId × Value → H} {W : World} {v : Value} {fuel : Nat} {x : DataW H × List MemPlace}
    (h : DataW.trod enc Try.prog W 0 (fun _ => true) true fuel 67 [v] = some x) : ∃ l : List Tup, Sl W v 3 (l.map tupCells) := by
  have hc : Try.prog.cellsOf 24 = 3 := by kernel_rfl
  haveI : Inhabited Tup := ⟨⟨0, 0, 0⟩⟩
  rcases Go.Deep.open_slice Try.underlying67 h with ⟨hcs, -⟩ | ⟨a, len, cap, m, n, D, Pl, hcs, hb, hl, hm, hmm, hx, hi⟩
  · simp only [List.cons.injEq, and_true] at hcs
    subst hcs
    exact ⟨[], Sl.nil W 3⟩
  · have hs : ∀ i, i < len → ∃ x : Tup, W.cells? 0 (a.add (i * 3)) 3 = some (tupCells x) := fun i hlt => by
      obtain ⟨cs', h1, h2⟩ := hi i (by simp at hmm; omega)
      rw [hc] at h1
      obtain ⟨a_ip, a_port, a_my, rfl, -, -, -⟩ := open_TUP h2
      exact ⟨⟨a_ip, a_port, a_my⟩, h1⟩
    obtain ⟨f, hf⟩ := Go.Deep.choose_lt hs
    refine ⟨(List.range len).map f, ?_⟩
    simp only [List.cons.injEq, and_true] at hcs
    rw [hcs, List.map_map]
    exact Sl.of_open hl hm (by omega) hf
set_option maxRecDepth 100000 in
theorem openS_TUP {H : Type} {enc : TypeId × Value → H} {W : World} {v : Value} {d : DataW H} {p : List MemPlace} {b0 : Nat} (hv : Value.okWide Try.prog W .any b0 67 v)
    (h : DataW.Trod enc Try.prog W 0 (fun _ => true) true 67 v d p) : ∃ l : List Tup, Sl W v 3 (l.map tupCells) := by
  obtain ⟨a0, len0, cap0, rfl⟩ := Go.WideShapes.okWide_slice Try.underlying67 hv
  obtain ⟨fuel, hf⟩ := h
  exact openSc_TUP hf
end Go.Proofs.Yteoipoenbofemaa
