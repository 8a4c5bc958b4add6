/- The machine: a row of the call's own, cut in place. -/
import Derived.Test.YtnmmhbhdcplfmaaXN
import Derived.ArgAppend
namespace Go.Proofs.Ytnmmhbhdcplfmaa
open Go.RowKit
set_option linter.unusedVariables false
set_option linter.unusedSimpArgs false
theorem flat_take {K : Nat} : ∀ {rs : List (List Value)}, (∀ r ∈ rs, r.length = K) → ∀ j : Nat, (rs.take j).flatten = rs.flatten.take (j * K)
  | [], _, j => by simp
  | r :: rs, h, 0 => by simp
  | r :: rs, h, j + 1 => by
    have hr : r.length = K := h r (by simp)
    have ih := flat_take (rs := rs) (fun x hx => h x (by simp [hx])) j
    rw [List.take_succ_cons, List.flatten_cons, List.flatten_cons, ih, List.take_append, List.take_of_length_le (l := r) (by rw [hr, Nat.add_mul]; omega), hr, show (j + 1) * K - K = j * K by rw [Nat.add_mul]; omega]
theorem flat_drop {K : Nat} : ∀ {rs : List (List Value)}, (∀ r ∈ rs, r.length = K) → ∀ j : Nat, (rs.drop j).flatten = rs.flatten.drop (j * K)
  | [], _, j => by simp
  | r :: rs, h, 0 => by simp
  | r :: rs, h, j + 1 => by
    have hr : r.length = K := h r (by simp)
    have ih := flat_drop (rs := rs) (fun x hx => h x (by simp [hx])) j
    rw [List.drop_succ_cons, List.flatten_cons, ih, List.drop_append, List.drop_of_length_le (l := r) (by rw [hr, Nat.add_mul]; omega), hr, show (j + 1) * K - K = j * K by rw [Nat.add_mul]; omega, List.nil_append]
theorem rowF_cap {w : World} {B e K N cap : Nat} {A : Option Addr} {rs : List (List Value)} (h : (rowF B e K (.slice A N cap) rs).p w) : N ≤ cap := by
  rcases h.1.2 with ⟨h1, h2⟩ | ⟨g, cap', cur, h1, _, _, h2, _⟩
  · simp only [Value.slice.injEq] at h1; omega
  · simp only [Value.slice.injEq] at h1; omega
section
variable {P : Program} {n : Nat} {w0 : World} {QX : Exit → St → Prop} {st st' : St} {ops : Array Oper} {l : List Oper} {ρ : Nat → Nat} {σ : Nat → Nat × Nat} {a : Act}
theorem chgd_cells {w : World} {g o : Nat} {cs : List Value} {S : Nat → Prop} (hS : S g) : Chgd S w (w.setCells g o cs) := by
  obtain ⟨h1, h2, h3⟩ := setCells_streams g cs o w
  exact ⟨h1, h2, h3, Nat.le_of_eq (setCells_size g cs o w).symm, fun k _ hk => setCells_other g cs o w k (fun e => hk (e ▸ hS))⟩
theorem act_slV3 {o : Oper} {t e : TypeId} {x lo hi mx : Operand} {A : Option Addr} {len cap K : Nat} {k k' k'' : IntKind} {p' q' m' : Int} (p q m : Nat) (h : XAct n st ρ σ a) (ho : o.op = .slice t x (some lo) (some hi) (some mx)) (hu : P.underlying t = some (.slice e)) (hi' : (P.info? e).map (·.size) = some K)
    (hx : opv st.tmps x = some (.v (.slice A len cap))) (hlo : opv st.tmps lo = some (.v (.int k p'))) (hhi : opv st.tmps hi = some (.v (.int k' q'))) (hmx : opv st.tmps mx = some (.v (.int k'' m'))) (ep : p' = p) (eq : q' = q) (em : m' = m) (h1 : p ≤ q) (h2 : q ≤ m) (h3 : m ≤ cap) (w : World) :
    (execOp a.eval o).run P w = .ok (.value (.slice (if m = p then A else A.map (·.add (p * K))) (q - p) (m - p))) w := by
  subst ep; subst eq; subst em
  cases hq : P.info? e with
  | none => simp [hq] at hi'
  | some i =>
    have hs : i.size = K := by simpa [hq] using hi'
    simp only [execOp, ho, opv_v h hx, opv_v h hlo, opv_v h hhi, opv_v h hmx, Option.map_some, Option.map_none, Sem.run_bind, Instr.sliceAt, Instr.slice, run_underlying hu, Result.andThen_ok]
    have e0 : (0 ≤ (m : Int) ∧ (m : Int) ≤ (cap : Int)) := by omega
    have e1 : (0 ≤ (q : Int) ∧ (q : Int) ≤ ((m : Int).toNat : Int)) := by omega
    have e2 : (0 ≤ (p : Int) ∧ (p : Int) ≤ ((q : Int).toNat : Int)) := by omega
    simp [Instr.sliceBounds, Instr.sliceBound, asIntOf, e0, e1, e2, sizeOf, typeInfo, run_program, hq, hs, h1, h2, h3]
/-- append of a row's end to its own beginning, in place. -/
theorem hv_appP {o : Oper} {c : Call} {x y : Operand} {T e K bytes i B : Nat} {A : Option Addr} {N cap p j m : Nat} {rs rs' : List (List Value)} (hop : o.op = .call c) (hc : c.callee = .builtin .append) (hargs : c.args.toList = [x, y]) (hts : c.argTypes.toList = [T, T])
    (hp : appOk P T e K bytes = true) (hx : opv st.tmps x = some (.v (.slice (if cap = 0 then A else A.map (·.add (0 * K))) (p - 0) (cap - 0)))) (hy : opv st.tmps y = some (.v (.slice (if cap = j then A else A.map (·.add (j * K))) (N - j) (cap - j))))
    (hi : st.facts[i]? = some (rowF B e K (.slice A N cap) rs)) (hn : rs.length = N) (hpj : p < j) (hjn : j ≤ N) (hrs : rs.take p ++ rs.drop j = rs') (hm : p + (N - j) = m) (hone : ∀ r ∈ rs, ∀ u ∈ r, u.oneCell' = true) (hlo : w0.heap.size ≤ B) :
    HV P n w0 st o (α := Unit) (fun _ => .slice A m cap) (fun _ => rowF B e K (.slice A m cap) rs' :: dropF st.facts i) := fun ρ σ a w hr => by
  subst hn hrs hm
  have hown := (hr.2.fact _ (List.mem_of_getElem? hi)).1
  obtain ⟨hu, ti, z, hti, hz, hs, hby, hzs, h0⟩ := appOk_spec hp
  obtain ⟨⟨hfl, hor⟩, hK⟩ := hown
  rcases hor with ⟨h1, h2⟩ | ⟨g, cap', cur, h1, hB, hg, hle, hmx, hcs, htk⟩
  · omega
  simp only [Value.slice.injEq] at h1
  obtain ⟨rfl, -, rfl⟩ := h1
  have hcur : ∀ q, q < rs.length * K → cur[q]? = rs.flatten[q]? := fun q hq => by
    rw [← htk, List.getElem?_take, if_pos hq, Array.getElem?_toList]
  have hflen : rs.flatten.length = rs.length * K := hfl
  have hjK : j * K ≤ rs.length * K := Nat.mul_le_mul_right _ hjn
  have hpK : p * K ≤ j * K := Nat.mul_le_mul_right _ (Nat.le_of_lt hpj)
  have hnl : (rs.drop j).flatten.length = (rs.length - j) * K := by rw [flat_drop hK, List.length_drop, hflen, Nat.sub_mul]
  have hroomK : p * K + (rs.length - j) * K ≤ rs.length * K := by rw [← Nat.add_mul]; exact Nat.mul_le_mul_right _ (by omega)
  have hcapK : rs.length * K ≤ cap * K := Nat.mul_le_mul_right _ hle
  have hcell : ∀ q, w.cell? ⟨g, q, none⟩ = cur[q]? := fun q => cell_of_row w g q cur e (0, 0) hg
  have key := run_append_room_cells (P := P) (w := w) T o.type e ti hu hti g 0 p cap ⟨g, j * K, none⟩ (rs.length - j) (cap - j) (rs.drop j).flatten (by rw [hs]; exact hnl) (fun q u hq => by
      have hq' : q < (rs.length - j) * K := by rw [← hnl]; exact (List.getElem?_eq_some_iff.1 hq).1
      have hsub : j * K + q < rs.length * K := by rw [Nat.sub_mul] at hq'; omega
      rw [Addr.add_mid, hcell, hcur _ hsub, ← hq, flat_drop hK, List.getElem?_drop])
    (fun u hu' => by obtain ⟨r, h3, h4⟩ := List.mem_flatten.1 hu'; exact hone r (List.mem_of_mem_drop h3) u h4) (by omega)
    (fun q hq => by rw [hs, hcell]; rw [hnl] at hq; rw [Array.getElem?_eq_getElem (by rw [hcs]; omega)]; rfl)
    (fun q hq => frozen_of_row w g _ cur e hg)
  have e2 : c.args = #[x, y] := by rw [← Array.toArray_toList (xs := c.args), hargs]
  have e3 : c.argTypes = #[T, T] := by rw [← Array.toArray_toList (xs := c.argTypes), hts]
  have ex : (Value.slice (if cap = 0 then some (⟨g, 0, none⟩ : Addr) else (some (⟨g, 0, none⟩ : Addr)).map (·.add (0 * K))) (p - 0) (cap - 0)) = .slice (some ⟨g, 0, none⟩) p cap := by
    rw [if_neg (by omega)]; simp [Addr.add_mid]
  rw [ex] at hx
  rw [hs, Nat.zero_add] at key
  have hw2 := setCells_heap g (rs.drop j).flatten (p * K) w cur e hg (by rw [hnl, hcs]; omega)
  refine ⟨(), w.setCells g (p * K) (rs.drop j).flatten, ?_, hr.2.noRows.turn hi rfl (fun b hb => by have : (some g) = some b := hb; simp only [Option.some.injEq] at this; omega) (chgd_cells rfl) _ ⟨⟨?_, .inr ⟨g, cap, _, by rw [List.length_append, List.length_take, List.length_drop, Nat.min_eq_left (show p ≤ rs.length by omega)], hB, hw2, ?_, hmx, ?_, ?_⟩⟩, fun r hr' => ?_⟩ fun b hb => .inl hb⟩
  · simp only [execOp, hop, resolve, hc, e2, e3, Sem.run_bind, Sem.run_pure, Result.andThen_ok, List.map_toArray, List.map_cons, List.map_nil, opv_v hr.1 hx, opv_v hr.1 hy, invoke, builtin]
    by_cases hcj : cap = j
    · have hz0 : rs.length - j = 0 := by omega
      have hnil : (rs.drop j).flatten = [] := List.eq_nil_of_length_eq_zero (by rw [hnl, hz0, Nat.zero_mul])
      rw [if_pos hcj]
      have := run_append_zero (P := P) w T o.type e ti hu hti (some ⟨g, 0, none⟩) p cap (by omega) (some ⟨g, 0, none⟩) (cap - j)
      rw [hz0, this, hnil]; simp [World.setCells]
    · rw [if_neg hcj]
      simp only [Option.map_some, Addr.add_mid, Nat.zero_add]
      rw [key]; rfl
  · rw [List.flatten_append, List.length_append, hnl, flat_take hK, List.length_take, hflen, List.length_append, List.length_take, List.length_drop, Nat.add_mul, Nat.min_eq_left (show p * K ≤ rs.length * K by omega), Nat.min_eq_left (show p ≤ rs.length by omega)]
  · simp only [List.length_append, List.length_take, List.length_drop]; omega
  · simp only [setL, List.size_toArray, List.length_append, List.length_take, List.length_drop, Array.length_toList, hnl]; rw [hcs]; omega
  · simp only [setL, List.flatten_append, List.length_append, List.length_take, List.length_drop]
    rw [Nat.min_eq_left (show p ≤ rs.length by omega), Nat.add_mul, ← hnl]
    have hl1 : (cur.toList.take (p * K)).length = p * K := by rw [List.length_take, Array.length_toList, hcs]; omega
    rw [List.append_assoc, List.take_append, hl1, List.take_of_length_le (by rw [hl1]; omega), Nat.add_sub_cancel_left, List.take_append, Nat.sub_self, List.take_zero, List.append_nil, List.take_of_length_le (Nat.le_refl _), flat_take hK, ← htk, List.take_take, Nat.min_eq_left (show p * K ≤ rs.length * K by omega)]
  · rcases List.mem_append.1 hr' with h | h
    · exact hK r (List.mem_of_mem_take h)
    · exact hK r (List.mem_of_mem_drop h)
/-- clear of what lies behind a row, within its room. -/
theorem hv_clear {fs' : List Fact} {o : Oper} {c : Call} {x : Operand} {T e K bytes i B : Nat} {A : Option Addr} {N cap q : Nat} {rs : List (List Value)} (z : List Value) (hop : o.op = .call c) (hc : c.callee = .builtin .clear) (hargs : c.args.toList = [x]) (hts : c.argTypes.toList = [T])
    (hp : appOk P T e K bytes = true) (hz : (P.info? e).bind (·.zero) = some (.agg z.toArray)) (hz1 : ∀ u ∈ z, u.oneCell' = true) (hx : opv st.tmps x = some (.v (.slice (if cap = N then A else A.map (·.add (N * K))) (q - N) (cap - N))))
    (hi : st.facts[i]? = some (rowF B e K (.slice A N cap) rs)) (hn : rs.length = N) (hq : N < q) (hqc : q ≤ cap) (hlo : w0.heap.size ≤ B) (hfs : rowF B e K (.slice A N cap) rs :: dropF st.facts i = fs') :
    HV P n w0 st o (α := Unit) (fun _ => .tuple #[]) (fun _ => fs') := fun ρ σ a w hr => by
  subst hn hfs
  have hown := (hr.2.fact _ (List.mem_of_getElem? hi)).1
  obtain ⟨hu, ti, z', hti, hzt, hs, hby, hzs, h0⟩ := appOk_spec hp
  obtain ⟨⟨hfl, hor⟩, hK⟩ := hown
  rcases hor with ⟨h1, h2⟩ | ⟨g, cap', cur, h1, hB, hg, hle, hmx, hcs, htk⟩
  · simp only [Value.slice.injEq] at h1; omega
  simp only [Value.slice.injEq] at h1
  obtain ⟨rfl, -, rfl⟩ := h1
  rw [hti] at hz; simp only [Option.bind_some, hzt, Option.some.injEq] at hz; subst hz
  have hqK : q * K ≤ cap * K := Nat.mul_le_mul_right _ hqc
  have hzl : z.length = K := by simpa [Value.cells] using hzs
  generalize hzc : (Builtin.zeroCells (Value.agg z.toArray).cells (q - rs.length)).toList = cs
  have hcl : cs.length = (q - rs.length) * K := by subst hzc; simp [Builtin.zeroCells, Value.cells, hzl]
  have hc1 : ∀ u ∈ cs, u.oneCell' = true := by
    subst hzc
    intro u hu'
    simp only [Builtin.zeroCells, Array.toList_map, List.mem_map] at hu'
    obtain ⟨k, -, rfl⟩ := hu'
    have hk : k % (Value.agg z.toArray).cells.size < (Value.agg z.toArray).cells.size := Nat.mod_lt _ (by simp [Value.cells, hzl]; exact h0)
    rw [getElem!_pos (Value.agg z.toArray).cells _ hk]
    apply hz1
    simp [Value.cells]
  have hfit : rs.length * K + cs.length ≤ cur.size := by rw [hcl, hcs, ← Nat.add_mul]; exact Nat.mul_le_mul_right _ (by omega)
  have hst := run_storeCells_cells (P := P) g (rs.length * K) cs 0 w (fun j hj => by
      rw [cell_of_row w g _ cur e (0, 0) hg, Array.getElem?_eq_getElem (by omega)]; rfl) (fun j hj => frozen_of_row w g _ cur e hg) hc1
  simp only [Nat.add_zero] at hst
  have e2 : c.args = #[x] := by rw [← Array.toArray_toList (xs := c.args), hargs]
  have e3 : c.argTypes = #[T] := by rw [← Array.toArray_toList (xs := c.argTypes), hts]
  have hw2 := setCells_heap g cs (rs.length * K) w cur e hg hfit
  refine ⟨(), w.setCells g (rs.length * K) cs, ?_, hr.2.noRows.turn hi rfl (fun b hb => by have : (some g) = some b := hb; simp only [Option.some.injEq] at this; omega) (chgd_cells rfl) _ ⟨⟨hfl, .inr ⟨g, cap, _, rfl, hB, hw2, hle, hmx, ?_, ?_⟩⟩, hK⟩ fun b hb => .inl hb⟩
  · simp only [execOp, hop, resolve, hc, e2, e3, Sem.run_bind, Sem.run_pure, Result.andThen_ok, List.map_toArray, List.map_cons, List.map_nil, opv_v hr.1 hx, invoke, builtin]
    rw [if_neg (by omega)]
    obtain ⟨m, hm⟩ : ∃ m, q - rs.length = m + 1 := ⟨q - rs.length - 1, by omega⟩
    simp only [Option.map_some, Addr.add_mid, Nat.zero_add]
    have hzv : ∀ w, (zeroValue e).run P w = .ok (.agg z.toArray) w := fun w => by simp [zeroValue, typeInfo, run_program, hti, hzt]
    rw [hm] at hzc ⊢
    simp [Builtin.clear_, run_underlying hu, hzv, hzc, hst]
  · simp only [setL, List.size_toArray, List.length_append, List.length_take, List.length_drop, Array.length_toList]; omega
  · simp only [setL]
    have hl1 : (cur.toList.take (rs.length * K)).length = rs.length * K := by rw [List.length_take, Array.length_toList]; exact Nat.min_eq_left (Nat.le_trans (Nat.le_add_right _ _) hfit)
    rw [List.append_assoc, List.take_append, hl1, Nat.sub_self, List.take_zero, List.append_nil, List.take_of_length_le (by rw [hl1]; exact Nat.le_refl _), htk]
end
end Go.Proofs.Ytnmmhbhdcplfmaa
