/- Memory of the call's own: rows that grow; results that are the call's own. -/
import Derived.Test.YtnmmhbhdcplfmaaXH
import Derived.Maps.AppendAt
import Derived.Great.FillDense
import Derived.Great.BuildSlice
import Derived.Laws.MakeOwn
import Derived.Laws.Tables
namespace Go.Proofs.Ytnmmhbhdcplfmaa
open Go.RowKit
set_option linter.unusedVariables false
set_option linter.unusedSimpArgs false

def rowF (B e K : Nat) (v : Value) (rs : List (List Value)) : Fact where
  own := true
  p := fun w => w.ownsRow B e K v rs.length rs.flatten ∧ ∀ r ∈ rs, r.length = K
  blk := fun b => v.ownBlock = some b
  lt := fun w b h hb => (h.1.lt b hb).2
  keep := fun w w' h hs hb => ⟨⟨h.1.1, by
    rcases h.1.2 with hn | ⟨g, cap, cur, hv, hB, hgg, rest⟩
    · exact .inl hn
    · exact .inr ⟨g, cap, cur, hv, hB, by rw [hb g (by rw [hv]; rfl)]; exact hgg, rest⟩⟩, h.2⟩
theorem rowF_own {w : World} {B e K : Nat} {v : Value} {rs : List (List Value)} (h : (rowF B e K v rs).p w) : Own w B v K rs := Own.of_row h.1 h.2 rfl
theorem rowF_sl {w : World} {B e K : Nat} {v : Value} {rs : List (List Value)} (h : (rowF B e K v rs).p w) : Sl w v K rs := (rowF_own h).sl
theorem rowF_lo {w : World} {B e K : Nat} {v : Value} {rs : List (List Value)} (h : (rowF B e K v rs).p w) {b : Nat} (hb : (rowF B e K v rs).blk b) : B ≤ b := (h.1.lt b hb).1
theorem rowF_nil (w : World) (B e K : Nat) : (rowF B e K (.slice none 0 0) []).p w := ⟨World.ownsRow_nil _ _ _ _, by simp⟩
theorem vblk_eq (v : Value) : vblk v = v.ownBlock := by
  cases v <;> rfl

section
variable {P : Program} {n : Nat} {w0 : World} {QX : Exit → St → Prop} {st st' : St} {ops : Array Oper} {l : List Oper}
def HV (P : Program) (n : Nat) (w0 : World) (st : St) (o : Oper) {α : Type} (F : α → Value) (G : α → List Fact) : Prop :=
  ∀ ρ σ a w, XRep n w0 st ρ σ a w → ∃ y w', (execOp a.eval o).run P w = .ok (.value (F y)) w' ∧ XHeap w0 st.boxes [] (G y) ρ σ w'
def HS (P : Program) (n : Nat) (w0 : World) (st : St) (o : Oper) (G : List Fact) : Prop :=
  ∀ ρ σ a w, XRep n w0 st ρ σ a w → ∃ w', (execOp a.eval o).run P w = .ok .skip w' ∧ XHeap w0 st.boxes [] G ρ σ w'
theorem XAct.bare {ρ : Nat → Nat} {σ : Nat → Nat × Nat} {a : Act} (h : XAct n st ρ σ a) (hr : allT (lenB st.boxes) 0 st.tmps = true) (G : List Fact) : XAct n ⟨st.tmps, st.boxes, [], G⟩ ρ σ a :=
  ⟨h.size, h.defers, fun t x hx => ⟨by have := allT_lkp _ _ _ hr hx; rw [lenB_eq] at this; exact this, (h.tmps t x hx).2⟩⟩
theorem xl_hv {α : Type} {F : α → Value} {G : α → List Fact} (k : Nat) (ks : List Nat) (st' : St) {o : Oper} (h : xpart P n ops l k ks st = some st') (ho : l[k]? = some o) (hw : xwanted ops st'.tmps o = some true) (hd : dstOk n o.dst = true)
    (hr : allT (lenB st'.boxes) 0 st'.tmps = true) (hk : HV P n w0 st' o F G)
    (hn : ∀ y, XL P n w0 ops QX (l.drop (k + 1)) ⟨putT st'.tmps o.dst (.v (F y)), st'.boxes, [], G y⟩) : XL P n w0 ops QX l st :=
  fun ρ σ a w hrr => xpart_sound h hrr (fun ρ' σ' a' w' hr' => by
    have hdrop : l.drop k = o :: l.drop (k + 1) := by
      obtain ⟨hlt, rfl⟩ := List.getElem?_eq_some_iff.1 ho
      exact List.drop_eq_getElem_cons hlt
    rw [hdrop]
    simp only [wpList]
    rw [xwanted_sound hr'.1 hw, if_pos rfl]
    left
    obtain ⟨y, w'', h1, h2⟩ := hk ρ' σ' a' w' hr'
    rw [Oper.wp, h1, Oper.upon_value]
    exact hn y ρ' σ' _ w'' ⟨(hr'.1.bare hr (G y)).put (x := .v (F y)) (dstOk_lt hd) trivial, h2⟩)
theorem xl_hs {G : List Fact} (k : Nat) (ks : List Nat) (st' : St) {o : Oper} (h : xpart P n ops l k ks st = some st') (ho : l[k]? = some o) (hw : xwanted ops st'.tmps o = some true) (hd : dstOk n o.dst = true)
    (hr : allT (lenB st'.boxes) 0 st'.tmps = true) (hk : HS P n w0 st' o G)
    (hn : XL P n w0 ops QX (l.drop (k + 1)) ⟨putT st'.tmps o.dst (.v undef), st'.boxes, [], G⟩) : XL P n w0 ops QX l st :=
  fun ρ σ a w hrr => xpart_sound h hrr (fun ρ' σ' a' w' hr' => by
    have hdrop : l.drop k = o :: l.drop (k + 1) := by
      obtain ⟨hlt, rfl⟩ := List.getElem?_eq_some_iff.1 ho
      exact List.drop_eq_getElem_cons hlt
    rw [hdrop]
    simp only [wpList]
    rw [xwanted_sound hr'.1 hw, if_pos rfl]
    left
    obtain ⟨w'', h1, h2⟩ := hk ρ' σ' a' w' hr'
    rw [Oper.wp, h1, Oper.upon_skip]
    exact hn ρ' σ' _ w'' ⟨(hr'.1.bare hr G).put (x := .v undef) (dstOk_lt hd) trivial, h2⟩)

theorem XHeap.noRows {boxes : List Box} {rows : List (List Value)} {facts : List Fact} {ρ : Nat → Nat} {σ : Nat → Nat × Nat} {w : World} (h : XHeap w0 boxes rows facts ρ σ w) : XHeap w0 boxes [] facts ρ σ w :=
  ⟨h.below, h.box, h.inj, fun k r hr => by simp at hr, h.fact, h.apart⟩
theorem Chgd.of_grown {v : Value} {w w' : World} (h : w.grownBy w' v.ownBlock) : Chgd (fun b => v.ownBlock = some b) w w' :=
  ⟨h.os, h.tape, h.output, h.size, fun k hk hn => h.block k hk fun e => hn e.symm⟩

def appOk (P : Program) (T e K : Nat) (bytes : Nat) : Bool :=
  match P.underlying T with
  | some (.slice e') => Nat.beq e' e && match P.info? e with
    | some i => Nat.beq i.size K && (Nat.beq i.bytes bytes && (Nat.blt 0 K && match i.zero with | some z => Nat.beq z.cells.size K | none => false))
    | none => false
  | _ => false
theorem appOk_spec {T e K bytes : Nat} (h : appOk P T e K bytes = true) : P.underlying T = some (.slice e) ∧ ∃ i z, P.info? e = some i ∧ i.zero = some z ∧ i.size = K ∧ i.bytes = bytes ∧ z.cells.size = K ∧ 0 < K := by
  unfold appOk at h
  split at h
  · rename_i e' hu
    simp only [Bool.and_eq_true] at h
    obtain ⟨h1, h2⟩ := h
    have h1 : e' = e := Nat.eq_of_beq_eq_true h1
    subst h1
    refine ⟨hu, ?_⟩
    split at h2
    · rename_i i hi
      simp only [Bool.and_eq_true] at h2
      obtain ⟨g1, g2, g3, g4⟩ := h2
      split at g4
      · rename_i z hz
        exact ⟨i, z, hi, hz, Nat.eq_of_beq_eq_true g1, Nat.eq_of_beq_eq_true g2, Nat.eq_of_beq_eq_true g4, Nat.le_of_ble_eq_true g3⟩
      · cases g4
    · cases h2
  · cases h
theorem flat_at {K : Nat} : ∀ {rs : List (List Value)}, (∀ r ∈ rs, r.length = K) → 0 < K → ∀ {j : Nat} {u : Value}, rs.flatten[j]? = some u → ∃ r, rs[j / K]? = some r ∧ r[j % K]? = some u
  | [], _, _, j, u, h => by simp at h
  | x :: rs, hk, h0, j, u, h => by
    have hx : x.length = K := hk x (by simp)
    simp only [List.flatten_cons] at h
    by_cases hj : j < K
    · rw [List.getElem?_append_left (by omega)] at h
      rw [Nat.div_eq_of_lt hj, Nat.mod_eq_of_lt hj]
      exact ⟨x, by simp, h⟩
    · rw [List.getElem?_append_right (by omega), hx] at h
      obtain ⟨r, h1, h2⟩ := flat_at (fun r hr => hk r (by simp [hr])) h0 h
      have e1 : j / K = (j - K) / K + 1 := by
        have := Nat.sub_add_cancel (Nat.le_of_not_lt hj)
        conv => lhs; rw [← this]
        rw [Nat.add_div_right _ h0]
      have e2 : j % K = (j - K) % K := by
        have := Nat.sub_add_cancel (Nat.le_of_not_lt hj)
        conv => lhs; rw [← this]
        rw [Nat.add_mod_right]
      exact ⟨r, by rw [e1]; simpa using h1, by rw [e2]; exact h2⟩
theorem run_append_zero (w : World) (t ty e : TypeId) (i : TypeInfo) (ht : P.underlying t = some (.slice e)) (hi : P.info? e = some i) (base : Option Addr) (n cap : Nat) (hn : n ≤ cap) (a : Option Addr) (c : Nat) :
    (Builtin.append_ #[t, t] ty #[.slice base n cap, .slice a 0 c]).run P w = .ok (.slice base n cap) w := by
  cases base <;> cases a <;> simp [Builtin.append_, run_underlying ht, sizeOf, typeInfo, hi, Builtin.lenOf, Builtin.firstCells, loadCells, loadCellsFrom, hn, storeCells]
theorem XHeap.turn {boxes : List Box} {facts : List Fact} {ρ : Nat → Nat} {σ : Nat → Nat × Nat} {w w' : World} (h : XHeap w0 boxes [] facts ρ σ w) {i : Nat} {fi : Fact} (hi : facts[i]? = some fi) (hown : fi.own = true)
    (hlo : ∀ b, fi.blk b → w0.heap.size ≤ b) (hc : Chgd fi.blk w w') (f : Fact) (hf : f.p w') (hb : ∀ b, f.blk b → fi.blk b ∨ w.heap.size ≤ b) : XHeap w0 boxes [] (f :: dropF facts i) ρ σ w' := by
  have hfi := h.fact fi (List.mem_of_getElem? hi)
  refine (h.stepM hi hown hlo hc).add f hf (fun j hj hbk => ?_) (fun g hg b hbk hgb => ?_)
  · rcases hb _ hbk with h1 | h1
    · exact hfi.2 j hj h1
    · have := h.boxLt hj; omega
  · obtain ⟨j, hj⟩ := List.getElem?_of_mem hg
    obtain ⟨m, hm, e⟩ := dropF_sub hj
    have hmi : i ≠ m := by subst e; split <;> omega
    rcases hb _ hbk with h1 | h1
    · exact h.apart i m fi g hi hm hmi hown b h1 hgb
    · have := g.lt _ b (h.fact g (List.mem_of_getElem? hm)).1 hgb; omega
theorem append_run {w : World} {B T e K bytes : Nat} {ty : TypeId} {v : Value} {rs new : List (List Value)} {A : Option Addr} {cap : Nat} (hp : appOk P T e K bytes = true) (hown : (rowF B e K v rs).p w) (hsrc : Sl w (.slice A new.length cap) K new)
    (hnew : ∀ r ∈ new, r.length = K ∧ ∀ u ∈ r, u.oneCell' = true) (hmax : rs.length + new.length ≤ maxLen) (hbytes : (rs.length + new.length) * bytes ≤ 140737488355328) (hB : B ≤ w.heap.size) :
    ∃ A' cap' w', (Builtin.append_ #[T, T] ty #[v, .slice A new.length cap]).run P w = .ok (.slice A' (rs.length + new.length) cap') w' ∧ (rowF B e K (.slice A' (rs.length + new.length) cap') (rs ++ new)).p w' ∧ w.grownBy w' v.ownBlock ∧
      ((Value.slice A' (rs.length + new.length) cap').ownBlock = v.ownBlock ∨ (Value.slice A' (rs.length + new.length) cap').ownBlock = some w.heap.size) := by
  obtain ⟨hu, i, z, hi, hz, hs, hby, hzs, h0⟩ := appOk_spec hp
  obtain ⟨a1, c1, g1, g2, g3, g4, g5⟩ := hsrc
  simp only [Value.slice.injEq] at g1
  obtain ⟨rfl, _, rfl⟩ := g1
  have hK : ∀ r ∈ new, r.length = K := fun r hr => (hnew r hr).1
  have hK' : ∀ r ∈ rs ++ new, r.length = K := fun r hr => (List.mem_append.1 hr).elim (hown.2 r) (hK r)
  cases new with
  | nil =>
    have hf : ∃ a n c, v = .slice a n c ∧ n ≤ c ∧ n = rs.length := by
      rcases hown.1.2 with ⟨h1, h2⟩ | ⟨g, cap, cur, h1, _, _, h2, _⟩
      · exact ⟨none, 0, 0, h1, Nat.le_refl _, h2.symm⟩
      · exact ⟨_, _, _, h1, h2, rfl⟩
    obtain ⟨a, n, c, rfl, hnc, rfl⟩ := hf
    exact ⟨a, c, w, by simpa using run_append_zero w T ty e i hu hi a rs.length c hnc A cap, by simpa using hown, ⟨rfl, rfl, rfl, Nat.le_refl _, fun _ _ _ => rfl⟩, .inl rfl⟩
  | cons r0 new =>
    obtain ⟨b, off, rfl, hb1, _⟩ := g5 0 r0 (by simp)
    have key := run_append_own_at (P := P) (w := w) B T ty e i z K bytes hu hi hz hs hby hzs h0 v rs.length rs.flatten hown.1 ⟨b, off, none⟩ (r0 :: new).length cap (r0 :: new).flatten (flat_len hK) (fun j u hj => by
        obtain ⟨r, h1, h2⟩ := flat_at hK h0 hj
        obtain ⟨b', off', e1, _, h3⟩ := g5 (j / K) r h1
        simp only [Option.some.injEq, Addr.mk.injEq, and_true] at e1
        obtain ⟨rfl, rfl⟩ := e1
        have := h3 (j % K) u h2
        rw [Addr.add_mid]
        rw [show off + j = off + j / K * K + j % K by have := Nat.div_add_mod j K; rw [Nat.mul_comm] at this; omega]
        exact this) (fun u hu => by
        obtain ⟨r, hr, hur⟩ := List.mem_flatten.1 hu
        exact (hnew r hr).2 u hur) hmax hbytes hB
    obtain ⟨v', w', h1, h2, h3, h4, h5⟩ := key
    have hf : ∃ a c, v' = .slice a (rs.length + (r0 :: new).length) c := by
      rcases h2.2 with ⟨e1, e2⟩ | ⟨g, cap, cur, e1, _⟩
      · exact absurd e2 (by simp)
      · exact ⟨_, _, e1⟩
    obtain ⟨a, c, rfl⟩ := hf
    exact ⟨a, c, w', h1, ⟨by rw [List.length_append, List.flatten_append]; exact h2, hK'⟩, h3, h5⟩
theorem hv_append {o : Oper} {c : Call} {x y : Operand} {T e K bytes i q : Nat} {v : Value} {rs new rs' : List (List Value)} {A : Option Addr} {m cap : Nat} (hop : o.op = .call c) (hc : c.callee = .builtin .append) (hargs : c.args.toList = [x, y]) (hts : c.argTypes.toList = [T, T])
    (hp : appOk P T e K bytes = true) (hx : opv st.tmps x = some (.v v)) (hy : opv st.tmps y = some (.v (.slice A m cap))) (hi : st.facts[i]? = some (rowF w0.heap.size e K v rs))
    (hm : new.length = m) (hrs : rs ++ new = rs') (hq : rs.length + m = q) (hsrc : ∀ w, (∀ f ∈ st.facts, f.p w) → Sl w (.slice A m cap) K new) (hnew : ∀ r ∈ new, r.length = K ∧ ∀ u ∈ r, u.oneCell' = true) (hmax : rs.length + m ≤ maxLen) (hbytes : (rs.length + m) * bytes ≤ 140737488355328) :
    HV P n w0 st o (α := Option Addr × Nat) (fun y => .slice y.1 q y.2) (fun y => rowF w0.heap.size e K (.slice y.1 q y.2) rs' :: dropF st.facts i) := fun ρ σ a w hr => by
  subst hm hrs hq
  have hown := (hr.2.fact _ (List.mem_of_getElem? hi)).1
  obtain ⟨A', cap', w', h1, h2, h3, h4⟩ := append_run (P := P) (ty := o.type) hp hown (hsrc w fun f hf => (hr.2.fact f hf).1) hnew hmax hbytes hr.2.below.size
  have e2 : c.args = #[x, y] := by rw [← Array.toArray_toList (xs := c.args), hargs]
  have e3 : c.argTypes = #[T, T] := by rw [← Array.toArray_toList (xs := c.argTypes), hts]
  refine ⟨(A', cap'), w', ?_, hr.2.noRows.turn hi rfl (fun b hb => rowF_lo hown hb) (Chgd.of_grown h3) _ h2 fun b hb => ?_⟩
  · simp only [execOp, hop, resolve, hc, e2, e3, Sem.run_bind, Sem.run_pure, Result.andThen_ok, List.map_toArray, List.map_cons, List.map_nil, opv_v hr.1 hx, opv_v hr.1 hy, invoke, builtin]
    rw [h1]; rfl
  · rcases h4 with h4 | h4
    · left; show v.ownBlock = some b; rw [← h4]; exact hb
    · right; have hb : (Value.slice A' (rs.length + new.length) cap').ownBlock = some b := hb
      rw [h4] at hb; simp only [Option.some.injEq] at hb; omega
end
end Go.Proofs.Ytnmmhbhdcplfmaa
