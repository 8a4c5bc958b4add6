/- Contracts: slices of arguments in the laws. -/
import Derived.Test.YtjfamgkkenccdaaR
import Derived.Test.YtjfamgkkenccdaaO
namespace Go.Proofs.Ytjfamgkkenccdaa
open Go.RowKit
attribute [local go_sem] lt_gap le_gap eq_gap gap_eq lt_ones2 lt_ones3 lt_ones4 lt_ones5 lt_ones6 lt_ones7 lt_ones8 lt_gap_1 lt_gap_2 lt_gap_3 lt_gap_4 lt_gap_5 lt_gap_6 size_grow cell?_grow frozen?_grow setCell_grow drew_grow drewN_grow
attribute [local go_sem] boxOf_alloc_at boxOf_alloc_past boxOf_grow boxOf_drew boxOf_drewN isBox_alloc_at isBox_alloc_past isBox_grow isBox_drew isBox_drewN putAt_all putAt setCells_alloc_at setCells_alloc_past setCells_grow setCells_drew
set_option linter.unusedVariables false
set_option linter.unusedSimpArgs false

theorem openSc_HLF {H : Type} {enc : TypeId × Value → H} {W : World} {v : Value} {fuel : Nat} {x : DataW H × List MemPlace}
    (h : DataW.trod enc Try.prog W 0 (fun _ => true) true fuel 58 [v] = some x) : ∃ l : List Hlf, Sl W v 13 (l.map hlfCells) := by
  have hc : Try.prog.cellsOf 107 = 13 := by kernel_rfl
  haveI : Inhabited Hlf := ⟨⟨⟨0, 0, 0⟩, 0, 0, ⟨0, 0, false, false, 0, 0⟩, 0, 0⟩⟩
  rcases Go.Deep.open_slice Try.underlying58 h with ⟨hcs, -⟩ | ⟨a, len, cap, m, n, D, Pl, hcs, hb, hl, hm, hmm, hx, hi⟩
  · simp only [List.cons.injEq, and_true] at hcs
    subst hcs
    exact ⟨[], Sl.nil W 13⟩
  · have hs : ∀ i, i < len → ∃ x : Hlf, W.cells? 0 (a.add (i * 13)) 13 = some (hlfCells x) := fun i hlt => by
      obtain ⟨cs', h1, h2⟩ := hi i (by simp at hmm; omega)
      rw [hc] at h1
      obtain ⟨a_t_ip, a_t_port, a_t_my, a_iss, a_irs, a_o_mss, a_o_scale, a_o_sack, a_o_stamp, a_o_val, a_o_echo, a_age, a_window, rfl, -, -, -, -, -, -, -, -, -, -, -⟩ := open_HLF h2
      exact ⟨⟨⟨a_t_ip, a_t_port, a_t_my⟩, a_iss, a_irs, ⟨a_o_mss, a_o_scale, a_o_sack, a_o_stamp, a_o_val, a_o_echo⟩, a_age, a_window⟩, h1⟩
    obtain ⟨f, hf⟩ := Go.Deep.choose_lt hs
    refine ⟨(List.range len).map f, ?_⟩
    simp only [List.cons.injEq, and_true] at hcs
    rw [hcs, List.map_map]
    exact Sl.of_open hl hm (by omega) hf
set_option maxRecDepth 100000 in
theorem openS_HLF {H : Type} {enc : TypeId × Value → H} {W : World} {v : Value} {d : DataW H} {p : List MemPlace} {b0 : Nat} (hv : Value.okWide Try.prog W .any b0 58 v)
    (h : DataW.Trod enc Try.prog W 0 (fun _ => true) true 58 v d p) : ∃ l : List Hlf, Sl W v 13 (l.map hlfCells) := by
  obtain ⟨a0, len0, cap0, rfl⟩ := Go.WideShapes.okWide_slice Try.underlying58 hv
  obtain ⟨fuel, hf⟩ := h
  exact openSc_HLF hf
theorem openSc_PCE {H : Type} {enc : TypeId × Value → H} {W : World} {v : Value} {fuel : Nat} {x : DataW H × List MemPlace}
    (h : DataW.trod enc Try.prog W 0 (fun _ => true) true fuel 26 [v] = some x) : ∃ l : List Pce, Sl W v 2 (l.map pceCells) ∧ ∀ p ∈ l, p.text.size ≤ maxLen := by
  have hc : Try.prog.cellsOf 152 = 2 := by kernel_rfl
  haveI : Inhabited Pce := ⟨⟨0, ⟨#[]⟩⟩⟩
  rcases Go.Deep.open_slice Try.underlying26 h with ⟨hcs, -⟩ | ⟨a, len, cap, m, n, D, Pl, hcs, hb, hl, hm, hmm, hx, hi⟩
  · simp only [List.cons.injEq, and_true] at hcs
    subst hcs
    exact ⟨[], Sl.nil W 2, by simp⟩
  · have hs : ∀ i, i < len → ∃ x : Pce, W.cells? 0 (a.add (i * 2)) 2 = some (pceCells x) ∧ x.text.size ≤ maxLen := fun i hlt => by
      obtain ⟨cs', h1, h2⟩ := hi i (by simp at hmm; omega)
      rw [hc] at h1
      obtain ⟨a_off, a_text, rfl, _, _⟩ := open_PCE h2
      exact ⟨⟨a_off, a_text⟩, h1, by assumption⟩
    obtain ⟨f, hf⟩ := Go.Deep.choose_lt hs
    refine ⟨(List.range len).map f, ?_⟩
    simp only [List.cons.injEq, and_true] at hcs
    rw [hcs, List.map_map]
    exact ⟨Sl.of_open hl hm (by omega) (fun i h => (hf i h).1), fun p hp => by obtain ⟨i, hi, rfl⟩ := List.mem_map.1 hp; exact (hf i (List.mem_range.1 hi)).2⟩
set_option maxRecDepth 100000 in
theorem openS_PCE {H : Type} {enc : TypeId × Value → H} {W : World} {v : Value} {d : DataW H} {p : List MemPlace} {b0 : Nat} (hv : Value.okWide Try.prog W .any b0 26 v)
    (h : DataW.Trod enc Try.prog W 0 (fun _ => true) true 26 v d p) : ∃ l : List Pce, Sl W v 2 (l.map pceCells) ∧ ∀ p ∈ l, p.text.size ≤ maxLen := by
  obtain ⟨a0, len0, cap0, rfl⟩ := Go.WideShapes.okWide_slice Try.underlying26 hv
  obtain ⟨fuel, hf⟩ := h
  exact openSc_PCE hf
end Go.Proofs.Ytjfamgkkenccdaa
