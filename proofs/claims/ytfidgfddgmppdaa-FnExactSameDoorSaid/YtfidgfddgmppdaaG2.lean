/- Plain definitions, the machine and its rules: what this law's contracts need of them, part 2. -/
import Derived.Test.YtfidgfddgmppdaaG1
/- The machine: an element of a row of the call's own, by its address: stores, also in drawn regions. -/
namespace Go.Proofs.Ytfidgfddgmppdaa
section
open Go.RowKit
set_option linter.unusedVariables false
set_option linter.unusedSimpArgs false
theorem setL_cons {r R cs : List Value} {K a : Nat} (hr : r.length = K) : r ++ setL R a cs = setL (r ++ R) (K + a) cs := by
  subst hr
  simp only [setL]
  rw [List.take_length_add_append, show r.length + a + cs.length = r.length + (a + cs.length) by omega, List.drop_length_add_append]
  simp only [List.append_assoc]
theorem flat_set {K po : Nat} {cs : List Value} : ∀ {rs : List (List Value)} {j : Nat} {row : List Value}, (∀ r ∈ rs, r.length = K) → rs[j]? = some row → po + cs.length ≤ K → (rs.set j (setL row po cs)).flatten = setL rs.flatten (j * K + po) cs
  | [], j, row, _, h, _ => by simp at h
  | r :: rs, 0, row, hK, h, hp => by
    simp only [List.getElem?_cons_zero, Option.some.injEq] at h; subst h
    have hr := hK r (by simp)
    simp only [List.set_cons_zero, List.flatten_cons, setL, Nat.zero_mul, Nat.zero_add]
    rw [List.take_append_of_le_length (by omega), List.drop_append_of_le_length (by omega)]
    simp only [List.append_assoc]
  | r :: rs, j + 1, row, hK, h, hp => by
    simp only [List.getElem?_cons_succ] at h
    have hr := hK r (by simp)
    simp only [List.set_cons_succ, List.flatten_cons]
    rw [flat_set (fun q hq => hK q (by simp [hq])) h hp, setL_cons hr, Nat.succ_mul]
    congr 1; omega
theorem setL_take {l cs : List Value} {o m : Nat} (h : o + cs.length ≤ m) (hm : m ≤ l.length) : (setL l o cs).take m = setL (l.take m) o cs := by
  have hl : (l.take o).length = o := by rw [List.length_take]; omega
  simp only [setL]
  rw [List.append_assoc, List.append_assoc, List.take_append, hl, List.take_append, List.take_of_length_le (l := List.take o l) (by omega), List.take_of_length_le (l := cs) (by omega), List.take_take, Nat.min_eq_left (by omega), List.drop_take, show m - (o + cs.length) = m - o - cs.length by omega]
theorem setL_len {l cs : List Value} {o : Nat} (h : o + cs.length ≤ l.length) : (setL l o cs).length = l.length := by
  simp only [setL, List.length_append, List.length_take, List.length_drop]; omega
section
variable {P : Program} {n : Nat} {w0 : World} {st : St}
theorem act_ix {ρ : Nat → Nat} {σ : Nat → Nat × Nat} {a : Act} {o : Oper} {T e : TypeId} {x idx : Operand} {g K N cap : Nat} {kd : IntKind} {A : Option Addr} (j : Nat) (hA : A = some ⟨g, 0, none⟩) (h : XAct n st ρ σ a) (hop : o.op = .indexAddr T x idx)
    (hu : P.underlying T = some (.slice e)) (hi : (P.info? e).map (·.size) = some K) (hx : cY st.tmps x = some (.v (.slice A N cap))) (hidx : cY st.tmps idx = some (.v (.int kd (j : Int)))) (hlt : j < N) (w : World) :
    (execOp a.eval o).run P w = .ok (.value (.pointer (some ⟨g, j * K, none⟩))) w := by
  simp only [execOp, hop, bu h hx, bu h hidx, Sem.run_bind, index_run hu hi hA hlt w, Result.andThen_ok, Sem.run_pure, Nat.zero_add]
def HSg (P : Program) (n : Nat) (w0 : World) (st : St) (o : Oper) (g : Nat) (G : List Fact) : Prop :=
  ∀ ρ σ a w, XRep n w0 st ρ σ a w → ∃ w', (execOp a.eval o).run P w = .ok .skip w' ∧ XHeap w0 st.boxes [] G ρ σ w' ∧ Chgd (fun b => b = g) w w'
theorem HSg.hs {o : Oper} {g : Nat} {G : List Fact} (h : HSg P n w0 st o g G) : HS P n w0 st o G := fun ρ σ a w hr => let ⟨w', h1, h2, _⟩ := h ρ σ a w hr; ⟨w', h1, h2⟩
theorem hs_stR {o : Oper} {t : TypeId} {x y : Operand} {g B e K N cap i off : Nat} {A : Option Addr} {rs rs' : List (List Value)} {v : Value} (j po : Nat) (row : List Value) {row' : List Value} (hA : A = some ⟨g, 0, none⟩) (hop : o.op = .store t x y)
    (hx : cY st.tmps x = some (.v (.pointer (some ⟨g, off, none⟩)))) (ho : off = j * K + po) (hy : cY st.tmps y = some (.v v)) (hsz : (P.info? t).map (·.size) = some v.cells.size) (h1 : v.cells.toList.all (·.oneCell') = true)
    (hi : st.facts[i]? = some (ck B e K (.slice A N cap) rs)) (hlo : w0.heap.size ≤ B) (hrow : rs[j]? = some row) (hpo : Nat.ble (po + v.cells.toList.length) K = true) (hr' : setL row po v.cells.toList = row') (hrs : rs.set j row' = rs') :
    HSg P n w0 st o g (ck B e K (.slice A N cap) rs' :: dropF st.facts i) := fun ρ σ a w hr => by
  subst hrs hr' ho hA
  have hown := (hr.2.fact _ (List.mem_of_getElem? hi)).1
  have hpo := Nat.le_of_ble_eq_true hpo
  obtain ⟨⟨hfl, hor⟩, hK⟩ := hown
  have hj : j < rs.length := (List.getElem?_eq_some_iff.1 hrow).1
  have hbd : j * K + K ≤ rs.length * K := by
    have : (j + 1) * K ≤ rs.length * K := Nat.mul_le_mul_right K hj
    rw [Nat.succ_mul] at this; exact this
  rcases hor with ⟨h1', h2⟩ | ⟨g', cap', cur, hv, hB, hg, hle, hmx, hcs, htk⟩
  · exact absurd h1' (by simp)
  simp only [Value.slice.injEq, Option.some.injEq, Addr.mk.injEq, and_true] at hv
  obtain ⟨rfl, rfl, rfl⟩ := hv
  have hcap : rs.length * K ≤ cap * K := Nat.mul_le_mul_right _ hle
  have hfit : j * K + po + v.cells.toList.length ≤ cur.size := by omega
  cases hin : P.info? t with
  | none => simp [hin] at hsz
  | some inf =>
    have hs : inf.size = v.cells.size := by simpa [hin] using hsz
    have hst := run_storeCells_cells (P := P) g (j * K + po) v.cells.toList 0 w (fun m hm => by
        rw [cell_of_row w g _ cur e (0, 0) hg, Array.getElem?_eq_getElem (by omega)]; rfl) (fun m hm => frozen_of_row w g _ cur e hg) (fun u hu => List.all_eq_true.1 h1 u hu)
    simp only [Nat.add_zero] at hst
    have hw2 := cV g v.cells.toList (j * K + po) w cur e hg hfit
    have hlen : cur.toList.length = cur.size := by simp
    refine ⟨w.setCells g (j * K + po) v.cells.toList, ?_, hr.2.noRows.turn hi rfl (fun b hb => by have : (some g) = some b := hb; simp only [Option.some.injEq] at this; omega) (chgd_cells rfl) _
      ⟨⟨?_, .inr ⟨g, cap, _, by rw [List.length_set], hB, hw2, by rw [List.length_set]; exact hle, hmx, ?_, ?_⟩⟩, fun r hr => ?_⟩ fun b hb => .inl hb, chgd_cells rfl⟩
    · simp only [execOp, hop, bu hr.1 hx, bu hr.1 hy, Sem.run_bind, Instr.storeAt, Instr.sureAddr, Sem.run_pure, Result.andThen_ok, storeVar, sizeOf, typeInfo, run_program, hin, hs, ne_eq, not_true_eq_false, if_false, hst]
    · rw [flat_set hK hrow hpo, setL_len (by rw [hfl]; omega), List.length_set]; exact hfl
    · rw [List.size_toArray, setL_len (by rw [hlen]; exact hfit)]; rw [hlen]; exact hcs
    · rw [List.length_set, flat_set hK hrow hpo, ← htk]
      exact setL_take (by omega) (by omega)
    · rcases List.mem_or_eq_of_mem_set hr with h | h
      · exact hK r h
      · rw [h, setL_len (by rw [hK row (List.mem_of_getElem? hrow)]; exact hpo)]; exact hK row (List.mem_of_getElem? hrow)
variable {QX : Exit → St → Prop} {ops : Array Oper}
variable {fuel : Nat} {listed : Array Bool} {B : List Box} {R : List (List Value)} {ρ : Nat → Nat} {σ : Nat → Nat × Nat}
end
end
/- The machine: draws that make a struct with a slice of its own. -/
section
open Go.RowKit
set_option linter.unusedVariables false
set_option linter.unusedSimpArgs false
section
variable {P : Program} {n : Nat} {w0 : World} {QX : Exit → St → Prop} {st st' : St} {ops : Array Oper} {fuel fuel' : Nat} {listed listed' : Array Bool} {B : List Box} {R : List (List Value)} {ρ : Nat → Nat} {σ : Nat → Nat × Nat}
end
end
/- The machine: function values that hold variables, calls of them, and memory kept together as one fact. -/
section
open Go.RowKit
set_option linter.unusedVariables false
set_option linter.unusedSimpArgs false
def allF (gs : List Fact) : Fact where
  own := true
  p := fun w => (∀ g ∈ gs, g.p w) ∧ Apart gs
  blk := fun b => ∃ g ∈ gs, g.blk b
  lt := fun w b h ⟨g, hg, hb⟩ => g.lt w b (h.1 g hg) hb
  keep := fun w w' h hs hb => ⟨fun g hg => g.keep w w' (h.1 g hg) hs fun b hgb => hb b ⟨g, hg, hgb⟩, h.2⟩
theorem Apart.back {gs hs : List Fact} (h : Apart (gs ++ hs)) : Apart hs := fun i j f g hi hj hij => by
  refine h (gs.length + i) (gs.length + j) f g ?_ ?_ (by omega)
  · rw [List.getElem?_append_right (by omega), Nat.add_sub_cancel_left]; exact hi
  · rw [List.getElem?_append_right (by omega), Nat.add_sub_cancel_left]; exact hj
theorem Apart.pickN {fs gs : List Fact} (m : List Nat) (h : Apart fs) (hm : nodupB m = true) (hp : pickF fs m = some gs) : Apart gs := fun i j f g hi hj hij => by
  obtain ⟨g1, g2⟩ := pickF_get hp
  have hl1 := (List.getElem?_eq_some_iff.1 hi).1
  have hl2 := (List.getElem?_eq_some_iff.1 hj).1
  have e1 := List.getElem?_eq_getElem (l := m) (i := i) (by omega)
  have e2 := List.getElem?_eq_getElem (l := m) (i := j) (by omega)
  refine h _ _ f g (g2 i f _ hi e1) (g2 j g _ hj e2) fun e => hij ?_
  have hk := List.pairwise_iff_getElem.1 (nodupB_spec hm)
  rcases Nat.lt_trichotomy i j with h1 | h1 | h1
  · exact (hk i j (by omega) (by omega) h1 e).elim
  · exact h1
  · exact (hk j i (by omega) (by omega) h1 e.symm).elim
section
variable {P : Program} {n : Nat} {w0 : World} {QX : Exit → St → Prop} {st st' : St} {ops : Array Oper} {l : List Oper}
variable {fuel : Nat} {listed : Array Bool} {B : List Box} {R : List (List Value)} {ρ : Nat → Nat} {σ : Nat → Nat × Nat}
end
end
end Go.Proofs.Ytfidgfddgmppdaa
