/- The machine walks through code. -/
import Derived.Test.YtnmmhbhdcplfmaaXC
namespace Go.Proofs.Ytnmmhbhdcplfmaa
open Go.RowKit
set_option linter.unusedVariables false
set_option linter.unusedSimpArgs false

def setL (c : List Value) (o : Nat) (cs : List Value) : List Value := c.take o ++ cs ++ c.drop (o + cs.length)
def setBox : List Box → Nat → Nat → List Value → List Box
  | [], _, _, _ => []
  | b :: r, 0, o, cs => ⟨b.ty, setL b.cells o cs⟩ :: r
  | b :: r, i + 1, o, cs => b :: setBox r i o cs
def addBox : List Box → Box → List Box
  | [], b => [b]
  | c :: r, b => c :: addBox r b
def lenB : List Box → Nat
  | [] => 0
  | _ :: r => lenB r + 1
theorem lenB_eq (l : List Box) : lenB l = l.length := by induction l with | nil => rfl | cons b l ih => simp [lenB, ih]
theorem addBox_eq (l : List Box) (b : Box) : addBox l b = l ++ [b] := by induction l with | nil => rfl | cons c l ih => simp [addBox, ih]
theorem setBox_len (l : List Box) (i o : Nat) (cs : List Value) : (setBox l i o cs).length = l.length := by
  induction l generalizing i with
  | nil => rfl
  | cons b l ih => cases i <;> simp [setBox, ih]
theorem setBox_get (l : List Box) (i o : Nat) (cs : List Value) (j : Nat) : (setBox l i o cs)[j]? = if j = i then (l[j]?).map (fun b => ⟨b.ty, setL b.cells o cs⟩) else l[j]? := by
  induction l generalizing i j with
  | nil => simp [setBox]
  | cons b l ih =>
    cases i with
    | zero => cases j <;> simp [setBox]
    | succ i => cases j <;> simp [setBox, ih]

theorem setCells_heap (g : Nat) : ∀ (cs : List Value) (o : Nat) (w : World) (c : Array Value) (t : TypeId), w.heap[g]? = some (.cells c t (0, 0)) → o + cs.length ≤ c.size →
    (w.setCells g o cs).heap[g]? = some (.cells (setL c.toList o cs).toArray t (0, 0))
  | [], o, w, c, t, h, hl => by simp [World.setCells, setL, h]
  | v :: r, o, w, c, t, h, hl => by
    simp only [List.length_cons] at hl
    have h1 : (w.setCell ⟨g, o, none⟩ v).heap[g]? = some (.cells (c.setIfInBounds o v) t (0, 0)) := by
      simp [World.setCell, Array.getElem?_modify, h]
    rw [World.setCells, setCells_heap g r (o + 1) _ _ t h1 (by simp; omega)]
    congr 2
    apply Array.toList_inj.1
    simp only [setL, Array.toList_setIfInBounds, List.length_cons]
    have ho : o < c.toList.length := by simp; omega
    rw [List.take_set, List.drop_set, if_pos (by omega)]
    rw [show o + 1 + r.length = o + (r.length + 1) by omega]
    rw [List.take_succ_eq_append_getElem ho, List.set_append_right _ _ (by simp; omega)]
    simp [Nat.min_eq_left (show o ≤ c.size by omega)]
theorem setCells_other (g : Nat) : ∀ (cs : List Value) (o : Nat) (w : World) (k : Nat), k ≠ g → (w.setCells g o cs).heap[k]? = w.heap[k]?
  | [], _, _, _, _ => rfl
  | v :: r, o, w, k, h => by
    rw [World.setCells, setCells_other g r (o + 1) _ k h, Below.heap_setCell _ _ _ _ h]
theorem setCells_size (g : Nat) : ∀ (vs : List Value) (o : Nat) (w : World), (w.setCells g o vs).heap.size = w.heap.size
  | [], _, _ => rfl
  | v :: r, o, w => (setCells_size g r (o + 1) _).trans (by simp [World.setCell])
theorem setCells_streams (g : Nat) : ∀ (vs : List Value) (o : Nat) (w : World), (w.setCells g o vs).os = w.os ∧ (w.setCells g o vs).tape = w.tape ∧ (w.setCells g o vs).output = w.output
  | [], _, _ => ⟨rfl, rfl, rfl⟩
  | v :: r, o, w => setCells_streams g r (o + 1) (w.setCell ⟨g, o, none⟩ v)

section
variable {w0 : World} {boxes : List Box} {rows : List (List Value)} {facts : List Fact} {ρ : Nat → Nat} {σ : Nat → Nat × Nat} {w w' : World}
def upd (ρ : Nat → Nat) (i m : Nat) : Nat → Nat := fun j => if j = i then m else ρ j
theorem XHeap.push (h : XHeap w0 boxes rows facts ρ σ w) (b : Box) : XHeap w0 (addBox boxes b) rows facts (upd ρ (lenB boxes) w.heap.size) σ (w.alloc (.cells b.cells.toArray b.ty)) := by
  rw [addBox_eq, lenB_eq]
  have hst := h.step (w' := w.alloc (.cells b.cells.toArray b.ty)) ((Below.refl _ _).alloc (Nat.le_refl _) _)
  refine ⟨hst.below, fun i c hi => ?_, fun i j hi hj he => ?_, fun k r hr => ?_, fun f hf => ?_, h.apart⟩
  · unfold upd
    by_cases hlt : i < boxes.length
    · rw [List.getElem?_append_left hlt] at hi
      rw [if_neg (by omega)]
      exact hst.box i c hi
    · rw [List.getElem?_append_right (by omega)] at hi
      have hi0 : i - boxes.length = 0 := by
        have := (List.getElem?_eq_some_iff.1 hi).1
        simp at this; omega
      obtain rfl : i = boxes.length := by omega
      simp at hi; subst hi
      rw [if_pos rfl]
      exact ⟨h.below.size, by rw [Go.heap_alloc_new]⟩
  · simp only [List.length_append, List.length_cons, List.length_nil] at hi hj
    unfold upd at he
    by_cases h1 : i = boxes.length <;> by_cases h2 : j = boxes.length
    · omega
    · rw [if_pos h1, if_neg h2] at he
      have := h.boxLt (i := j) (by omega); omega
    · rw [if_neg h1, if_pos h2] at he
      have := h.boxLt (i := i) (by omega); omega
    · rw [if_neg h1, if_neg h2] at he
      exact h.inj i j (by omega) (by omega) he
  · obtain ⟨h1, h2, h3⟩ := hst.row k r hr
    refine ⟨h1, h2, fun i hi => ?_⟩
    simp only [List.length_append, List.length_cons, List.length_nil] at hi
    unfold upd
    by_cases h1 : i = boxes.length
    · rw [if_pos h1]; have := (h.row k r hr).2.1; omega
    · rw [if_neg h1]; exact h3 i (by omega)
  · obtain ⟨h1, h2⟩ := hst.fact f hf
    refine ⟨h1, fun i hi => ?_⟩
    simp only [List.length_append, List.length_cons, List.length_nil] at hi
    unfold upd
    by_cases h3 : i = boxes.length
    · rw [if_pos h3]; intro hb; have := f.lt w _ (h.fact f hf).1 hb; omega
    · rw [if_neg h3]; exact h2 i (by omega)
theorem XHeap.write (h : XHeap w0 boxes rows facts ρ σ w) {i : Nat} {b : Box} (hi : boxes[i]? = some b) {o : Nat} {cs : List Value} (hl : o + cs.length ≤ b.cells.length) :
    XHeap w0 (setBox boxes i o cs) rows facts ρ σ (w.setCells (ρ i) o cs) := by
  have hil : i < boxes.length := (List.getElem?_eq_some_iff.1 hi).1
  obtain ⟨hB, hbox⟩ := h.box i b hi
  obtain ⟨s1, s2, s3⟩ := setCells_streams (ρ i) cs o w
  refine ⟨⟨s1.trans h.below.os, s2.trans h.below.tape, s3.trans h.below.output, by rw [setCells_size]; exact h.below.size, fun k hk => ?_⟩, fun j c hj => ?_, fun i j h1 h2 he => ?_, fun k r hr => ?_, fun f hf => ?_, h.apart⟩
  · rw [setCells_other _ _ _ _ _ (by omega)]; exact h.below.block k hk
  · rw [setBox_get] at hj
    by_cases hji : j = i
    · subst hji
      rw [if_pos rfl, hi] at hj
      simp only [Option.map_some, Option.some.injEq] at hj
      subst hj
      refine ⟨hB, ?_⟩
      have := setCells_heap (ρ j) cs o w b.cells.toArray b.ty hbox (by simpa using hl)
      simpa using this
    · rw [if_neg hji] at hj
      obtain ⟨h1, h2⟩ := h.box j c hj
      refine ⟨h1, ?_⟩
      rw [setCells_other _ _ _ _ _ (fun e => hji (h.inj j i (List.getElem?_eq_some_iff.1 hj).1 hil e))]
      exact h2
  · rw [setBox_len] at h1 h2; exact h.inj i j h1 h2 he
  · obtain ⟨h1, h2, h3⟩ := h.row k r hr
    refine ⟨fun j v hv => ?_, by rw [setCells_size]; exact h2, fun i hi => h3 i (by rw [setBox_len] at hi; exact hi)⟩
    rw [World.cell?_of_block (a := ⟨(σ k).1, (σ k).2 + j, none⟩) (setCells_other (ρ i) cs o w _ (h3 i hil))]
    exact h1 j v hv
  · obtain ⟨h1, h2⟩ := h.fact f hf
    refine ⟨f.keep w _ h1 (by rw [setCells_size]; exact Nat.le_refl _) (fun b hb => setCells_other _ _ _ _ _ (fun e => h2 i hil (e ▸ hb))), fun i hi => h2 i (by rw [setBox_len] at hi; exact hi)⟩
end

section
variable {P : Program} {n : Nat} {w0 : World} {st : St} {facts : List Fact} {ρ : Nat → Nat} {σ : Nat → Nat × Nat} {a : Act} {w : World}
theorem AV.wf_mono {x : AV} {nb nr nb' nr' : Nat} (h : x.wf nb nr) (h1 : nb ≤ nb') (h2 : nr ≤ nr') : x.wf nb' nr' := by
  cases x <;> simp only [AV.wf] at * <;> omega
theorem conc_upd {x : AV} {nb nr m : Nat} (h : x.wf nb nr) : conc (upd ρ nb m) σ x = conc ρ σ x := by
  cases x with
  | v x => rfl
  | p i off => simp only [AV.wf] at h; simp only [conc, upd]; rw [if_neg (by omega)]
  | r h off => rfl
theorem XAct.put (h : XAct n st ρ σ a) {d : Option Nat} {x : AV} (hd : ∀ t, d = some t → t < n) (hx : x.wf st.boxes.length st.rows.length) : XAct n { st with tmps := putT st.tmps d x } ρ σ (a.put d (conc ρ σ x)) := by
  cases d with
  | none => exact h
  | some t =>
    refine ⟨by simp [Act.put, h.size], h.defers, fun u y hu => ?_⟩
    simp only [putT, lkp] at hu
    split at hu
    · rename_i hb
      obtain rfl : t = u := Nat.eq_of_beq_eq_true hb
      simp only [Option.some.injEq] at hu; subst hu
      refine ⟨hx, ?_⟩
      have : t < a.tmps.size := by rw [h.size]; exact hd t rfl
      simp [Act.put, Array.getD_eq_getD_getElem?, this]
    · rename_i hb
      have hne : t ≠ u := fun e => hb (by subst e; exact Nat.beq_refl t)
      rw [lkp_del, if_neg hne] at hu
      obtain ⟨h1, h2⟩ := h.tmps u y hu
      refine ⟨h1, ?_⟩
      rw [← h2]
      simp [Act.put, Array.getD_eq_getD_getElem?, Array.getElem?_setIfInBounds, hne]

def xwanted (ops : Array Oper) (l : List (Nat × AV)) (o : Oper) : Option Bool :=
  match o.guard with
  | none => some true
  | some (j, b) => match ops[j]? with
    | some oj => match oj.dst with
      | some t => match lkp l t with
        | some (.v (.bool x)) => match x, b with
          | true, true => some true
          | false, false => some true
          | true, false => some false
          | false, true => some false
        | some (.v (.tuple _)) => some false
        | _ => none
      | none => none
    | none => none
def dstOk (n : Nat) : Option Nat → Bool
  | none => true
  | some t => Nat.blt t n
theorem dstOk_lt {n : Nat} {d : Option Nat} (h : dstOk n d = true) : ∀ t, d = some t → t < n := fun t e => by subst e; simpa [dstOk] using h
theorem xwanted_sound {ops : Array Oper} {o : Oper} {b : Bool} (h : XAct n st ρ σ a) (hx : xwanted ops st.tmps o = some b) : Region.wanted o (yielded ops a.tmps) = b := by
  unfold xwanted at hx
  unfold Region.wanted
  split at hx
  · rename_i hg; rw [hg]; simpa using hx
  · rename_i j bb hg
    rw [hg]
    simp only
    split at hx
    · rename_i oj hj
      split at hx
      · rename_i t ht
        split at hx
        · rename_i x hl
          have hv := (h.tmps t _ hl).2
          simp only [conc] at hv
          have hy : yielded ops a.tmps j = some x := by
            unfold yielded
            simp only [hj, Option.bind_some, ht]
            rw [Array.getD_eq_getD_getElem?] at hv
            cases hq : a.tmps[t]? with
            | none => rw [hq] at hv; simp [undef] at hv
            | some z => rw [hq] at hv; simp only [Option.getD_some] at hv; subst hv; rfl
          rw [hy]
          split at hx <;> simp only [Option.some.injEq] at hx <;> subst hx <;> rfl
        · rename_i vs hl
          simp only [Option.some.injEq] at hx; subst hx
          have hv := (h.tmps t _ hl).2
          simp only [conc] at hv
          have hy : yielded ops a.tmps j = none := by
            unfold yielded
            simp only [hj, Option.bind_some, ht]
            rw [Array.getD_eq_getD_getElem?] at hv
            cases hq : a.tmps[t]? with
            | none => rfl
            | some z => rw [hq] at hv; simp only [Option.getD_some] at hv; subst hv; rfl
          rw [hy]; rfl
        · simp at hx
      · simp at hx
    · simp at hx
def xrun (P : Program) (n : Nat) (ops : Array Oper) : List Oper → St → Option St
  | [], st => some st
  | o :: rest, st =>
    if dstOk n o.dst then
      match xwanted ops st.tmps o with
      | some true => match xop P st.tmps st.boxes st.rows o.op with
        | some (.val x) => xrun P n ops rest ⟨putT st.tmps o.dst x, st.boxes, st.rows, st.facts⟩
        | some (.box b) => xrun P n ops rest ⟨putT st.tmps o.dst (.p (lenB st.boxes) 0), addBox st.boxes b, st.rows, st.facts⟩
        | some (.store i off cs) => xrun P n ops rest ⟨putT st.tmps o.dst (.v undef), setBox st.boxes i off cs, st.rows, st.facts⟩
        | none => none
      | some false => xrun P n ops rest ⟨putT st.tmps o.dst (.v undef), st.boxes, st.rows, st.facts⟩
      | none => none
    else none

theorem run_newVar' (t : TypeId) (v : Value) (w : World) : (newVar t v).run P w = .ok ⟨w.heap.size, 0, none⟩ (w.alloc (.cells v.cells t)) := by
  rfl
theorem xop_box {o : Oper} {b : Box} (hx : xop P st.tmps st.boxes st.rows o.op = some (.box b)) (hA : XAct n st ρ σ a) :
    (execOp a.eval o).run P w = .ok (.value (.pointer (some ⟨w.heap.size, 0, none⟩))) (w.alloc (.cells b.cells.toArray b.ty)) := by
  unfold xop at hx
  split at hx
  case h_4 t x ho =>
    split at hx
    · rename_i v hv
      simp only [Option.some.injEq, XR.box.injEq] at hx; subst hx
      have h1 := opv_v hA hv
      simp only [execOp, ho, h1, Instr.box, Sem.run_bind, run_newVar', Result.andThen_ok, Sem.run_pure, Array.toArray_toList]
    · simp at hx
  case h_5 t ho =>
    split at hx
    · rename_i i hi
      split at hx
      · rename_i z hz
        simp only [Option.some.injEq, XR.box.injEq] at hx; subst hx
        simp only [execOp, ho, Instr.alloc, zeroValue, typeInfo, Sem.run_bind, run_program, hi, Result.andThen_ok, Sem.run_pure, hz, run_newVar', Array.toArray_toList]
      · simp at hx
    · simp at hx
  all_goals (exfalso; revert hx; (repeat' split) <;> simp)
theorem xop_store {o : Oper} {i off : Nat} {cs : List Value} (hx : xop P st.tmps st.boxes st.rows o.op = some (.store i off cs)) (hA : XAct n st ρ σ a) (hH : XHeap w0 st.boxes st.rows facts ρ σ w) :
    ∃ b, st.boxes[i]? = some b ∧ off + cs.length ≤ b.cells.length ∧ (execOp a.eval o).run P w = .ok .skip (w.setCells (ρ i) off cs) := by
  unfold xop at hx
  split at hx
  case h_7 t x y ho =>
    split at hx
    · rename_i i off v h1 h2
      split at hx
      · rename_i b inf hb hi
        split at hx
        · rename_i hc
          simp only [Option.some.injEq, XR.store.injEq] at hx
          obtain ⟨rfl, rfl, rfl⟩ := hx
          simp only [Bool.and_eq_true, Nat.ble_eq] at hc
          obtain ⟨c1, c2, c3⟩ := hc
          have c1 := Nat.eq_of_beq_eq_true c1
          have h1' := (opv_eval hA h1).1
          have h2' := opv_v hA h2
          refine ⟨b, hb, by simp; omega, ?_⟩
          have hc := run_storeCells_cells (P := P) (ρ i) off v.cells.toList 0 w
            (fun j hj => by
              rw [hH.cells hb]; simp at hj ⊢; omega)
            (fun j hj => hH.frozen hb _) (fun u hu => List.all_eq_true.1 c3 u hu)
          simp only [Nat.add_zero] at hc
          simp only [execOp, ho, h1', h2', conc, Sem.run_bind, Instr.storeAt, Instr.sureAddr, Sem.run_pure, Result.andThen_ok, storeVar, sizeOf, typeInfo, run_program, hi, c1, ne_eq, not_true_eq_false, if_false, hc]
        · simp at hx
      · simp at hx
    · simp at hx
  all_goals (exfalso; revert hx; (repeat' split) <;> simp)

theorem xrun_sound {ops : Array Oper} {Q : Exit → Act → World → Prop} {rest : List Oper} {st' : St} : ∀ (l : List Oper) (st : St) {ρ : Nat → Nat} {σ : Nat → Nat × Nat} {a : Act} {w : World}, xrun P n ops l st = some st' → XRep n w0 st ρ σ a w →
    (∀ ρ' σ' a' w', XRep n w0 st' ρ' σ' a' w' → wpList P ops Q rest a' w') → wpList P ops Q (l ++ rest) a w
  | [], st, ρ, σ, a, w, h, hr, k => by simp only [xrun, Option.some.injEq] at h; subst h; exact k _ _ _ _ hr
  | o :: l, st, ρ, σ, a, w, h, ⟨hA, hH⟩, k => by
    simp only [xrun] at h
    split at h
    · rename_i hd
      have hd := dstOk_lt hd
      simp only [List.cons_append, wpList]
      split at h
      · rename_i hw
        rw [xwanted_sound hA hw, if_pos rfl]
        left
        split at h
        · rename_i x hx
          obtain ⟨h1, h2⟩ := xop_val (P := P) hx hA hH
          rw [Oper.wp, h2, Oper.upon_value]
          exact xrun_sound l _ h ⟨hA.put hd h1, hH⟩ k
        · rename_i b hx
          rw [Oper.wp, xop_box hx hA, Oper.upon_value]
          refine xrun_sound l _ h ⟨?_, hH.push b⟩ k
          have hA' : XAct n ⟨st.tmps, addBox st.boxes b, st.rows, st.facts⟩ (upd ρ (lenB st.boxes) w.heap.size) σ a := ⟨hA.size, hA.defers, fun t x ht => by
            obtain ⟨g1, g2⟩ := hA.tmps t x ht
            refine ⟨AV.wf_mono (x := x) g1 (by rw [addBox_eq]; simp) (Nat.le_refl _), ?_⟩
            rw [lenB_eq, conc_upd g1]; exact g2⟩
          have := hA'.put (d := o.dst) (x := .p (lenB st.boxes) 0) hd (by simp only [AV.wf]; rw [addBox_eq, lenB_eq]; simp)
          simpa [conc, upd] using this
        · rename_i i off cs hx
          obtain ⟨b, h1, h2, h3⟩ := xop_store (P := P) hx hA hH
          rw [Oper.wp, h3, Oper.upon_skip]
          have hA' : XAct n ⟨st.tmps, setBox st.boxes i off cs, st.rows, st.facts⟩ ρ σ a := ⟨hA.size, hA.defers, fun t x ht => by
            obtain ⟨g1, g2⟩ := hA.tmps t x ht
            exact ⟨by rw [setBox_len]; exact g1, g2⟩⟩
          exact xrun_sound l _ h ⟨hA'.put (x := .v undef) hd trivial, hH.write h1 h2⟩ k
        · simp at h
      · rename_i hw
        rw [xwanted_sound hA hw, if_neg (by simp)]
        exact xrun_sound l _ h ⟨hA.put (x := .v undef) hd trivial, hH⟩ k
      · simp at h
    · simp at h
end
end Go.Proofs.Ytnmmhbhdcplfmaa
