/- The model's operations do what the machine's do. -/
import Derived.Test.YtnmmhbhdcplfmaaXB
namespace Go.Proofs.Ytnmmhbhdcplfmaa
open Go.RowKit
set_option linter.unusedVariables false
set_option linter.unusedSimpArgs false

section
variable {P : Program} {n : Nat} {w0 : World} {st : St} {facts : List Fact} {ρ : Nat → Nat} {σ : Nat → Nat × Nat} {a : Act} {w : World}
theorem loadC_run {t : TypeId} {cs : List Value} {off b o0 : Nat} {v : Value} (hr : w.rangeAt b o0 cs) (h : loadC P t cs off = some v) : (Instr.loadAt t (.pointer (some ⟨b, o0 + off, none⟩))).run P w = .ok v w := by
  unfold loadC at h
  split at h
  · rename_i d i hd hi
    split at h
    · rename_i hrow
      split at h
      · rename_i hb
        simp only [Option.some.injEq] at h
        subst h
        have hle : off + i.size ≤ cs.length := by simpa using hb
        refine run_loadAt_mid w b (o0 + off) t _ d (fun j v hv => ?_) hd hrow (by rw [hi]; simp; omega)
        have hj : j < i.size := by
          have := (List.getElem?_eq_some_iff.1 hv).1
          simp at this; omega
        have hv' : cs[off + j]? = some v := by
          rw [List.getElem?_take, if_pos hj, List.getElem?_drop] at hv
          exact hv
        rw [Nat.add_assoc]
        exact hr (off + j) v hv'
      · simp at h
    · rename_i hrow
      have hagg : (isAgg t).run P w = .ok false w := by
        unfold isAgg
        rw [Sem.run_bind, run_underlying hd w]
        cases d <;> simp_all
      simp only [Instr.loadAt, Instr.sureAddr, Sem.run_bind, Sem.run_pure, Result.andThen_ok, loadVar, hagg, Bool.false_eq_true, if_false, run_load, hr off v h]
  · simp at h
theorem XHeap.range (h : XHeap w0 st.boxes st.rows facts ρ σ w) {i : Nat} {b : Box} (hi : st.boxes[i]? = some b) : w.rangeAt (ρ i) 0 b.cells := fun j v hv => by
  rw [Nat.zero_add, h.cells hi]; exact hv

theorem cond_run (c : Bool) (x y : Bool) : (if c = true then Value.bool x else Value.bool y) = Value.bool (cond c x y) := by cases c <;> rfl

theorem xop_rd {o : Oper} {y : AV} {bs : List Box} {rs : List (List Value)} (hx : xop P st.tmps bs rs o.op = some (.val y)) (hA : XAct n st ρ σ a) (hH : XRd bs rs ρ σ w) :
    y.wf st.boxes.length st.rows.length ∧ (execOp a.eval o).run P w = .ok (.value (conc ρ σ y)) w := by
  unfold xop at hx
  split at hx
  case h_1 x ho =>
    split at hx
    · rename_i z hz; simp only [Option.some.injEq, XR.val.injEq] at hx; subst hx
      obtain ⟨h1, h2⟩ := opv_eval hA hz
      exact ⟨h2, by simp only [execOp, ho, h1]; rfl⟩
    · simp at hx
  case h_2 x ho =>
    split at hx
    · rename_i z hz; simp only [Option.some.injEq, XR.val.injEq] at hx; subst hx
      obtain ⟨h1, h2⟩ := opv_eval hA hz
      exact ⟨h2, by simp only [execOp, ho, h1]; rfl⟩
    · simp at hx
  case h_3 c x z ho =>
    split at hx
    · rename_i cc hc
      have hc' := opv_v hA hc
      split at hx
      · rename_i xa ya h1 h2
        simp only [Option.some.injEq, XR.val.injEq] at hx; subst hx
        have h1' := opv_v hA h1
        have h2' := opv_v hA h2
        refine ⟨trivial, ?_⟩
        simp only [execOp, ho, hc', asBool, Sem.run_bind, Sem.run_pure, Result.andThen_ok, h1', h2', cond_run, conc]
      · rename_i xa ya _ h1 h2
        obtain ⟨h1', g1⟩ := opv_eval hA h1
        obtain ⟨h2', g2⟩ := opv_eval hA h2
        split at hx
        · simp only [Option.some.injEq, XR.val.injEq] at hx; subst hx
          refine ⟨g1, ?_⟩
          simp only [execOp, ho, hc', asBool, Sem.run_bind, Sem.run_pure, Result.andThen_ok, if_true, h1']
        · simp only [Option.some.injEq, XR.val.injEq] at hx; subst hx
          refine ⟨g2, ?_⟩
          simp only [execOp, ho, hc', asBool, Sem.run_bind, Sem.run_pure, Result.andThen_ok, Bool.false_eq_true, if_false, h2']
      · simp at hx
    · simp at hx
  case h_4 => split at hx <;> simp at hx
  case h_5 =>
    split at hx
    · split at hx <;> simp at hx
    · simp at hx
  case h_6 t x ho =>
    split at hx
    · rename_i i off hxx
      have hev := (opv_eval hA hxx).1
      split at hx
      · rename_i b hb
        split at hx
        · rename_i v hv
          simp only [Option.some.injEq, XR.val.injEq] at hx; subst hx
          refine ⟨trivial, ?_⟩
          have hl := loadC_run (P := P) (hH.box _ _ hb).2 hv
          rw [Nat.zero_add] at hl
          simp only [execOp, ho, hev, conc, Sem.run_bind, hl, Result.andThen_ok, Sem.run_pure]
        · simp at hx
      · simp at hx
    · rename_i k off hxx
      have hev := (opv_eval hA hxx).1
      split at hx
      · rename_i r hr
        split at hx
        · rename_i v hv
          simp only [Option.some.injEq, XR.val.injEq] at hx; subst hx
          refine ⟨trivial, ?_⟩
          have hl := loadC_run (P := P) (hH.row k r hr).2 hv
          simp only [execOp, ho, hev, conc, Sem.run_bind, hl, Result.andThen_ok, Sem.run_pure]
        · simp at hx
      · simp at hx
    · simp at hx
  case h_7 =>
    split at hx
    · split at hx
      · split at hx <;> simp at hx
      · simp at hx
    · simp at hx
  case h_8 s x f ho =>
    split at hx
    · rename_i fs hu
      split at hx
      · rename_i fd hf
        split at hx
        · rename_i inf hi
          split at hx
          · simp at hx
          · rename_i hz
            have hz' : ¬ inf.size = 0 := by simpa using hz
            split at hx
            · rename_i i off hxx
              simp only [Option.some.injEq, XR.val.injEq] at hx; subst hx
              obtain ⟨h1, h2⟩ := opv_eval hA hxx
              refine ⟨h2, ?_⟩
              simp only [execOp, ho, h1, conc, Instr.fieldAt, Sem.run_bind, run_underlying hu, Result.andThen_ok, hf, Instr.sureAddr, Sem.run_pure, fieldPlace, sizeOf, typeInfo, run_program, hi, hz', if_false, Addr.add_mid]
            · rename_i k off hxx
              simp only [Option.some.injEq, XR.val.injEq] at hx; subst hx
              obtain ⟨h1, h2⟩ := opv_eval hA hxx
              refine ⟨h2, ?_⟩
              simp only [execOp, ho, h1, conc, Instr.fieldAt, Sem.run_bind, run_underlying hu, Result.andThen_ok, hf, Instr.sureAddr, Sem.run_pure, fieldPlace, sizeOf, typeInfo, run_program, hi, hz', if_false, Addr.add_mid, Nat.add_assoc]
            · simp at hx
        · simp at hx
      · simp at hx
    · simp at hx
  case h_9 op t x y' ty ho =>
    split at hx
    · rename_i va vb h1 h2
      split at hx
      · rename_i v hv
        simp only [Option.some.injEq, XR.val.injEq] at hx; subst hx
        have h1' := opv_v hA h1
        have h2' := opv_v hA h2
        refine ⟨trivial, ?_⟩
        have := binV_run op t x y' va vb v hv w
        simp only [execOp, ho, h1', h2', conc, Sem.run_bind] at this ⊢
        simp only [this, Result.andThen_ok, Sem.run_pure]
      · simp at hx
    · simp at hx
  case h_10 t x ho =>
    split at hx
    · rename_i b hb
      simp only [Option.some.injEq, XR.val.injEq] at hx; subst hx
      have h1 := opv_v hA hb
      exact ⟨trivial, by simp [execOp, ho, h1, Op.unary, conc]⟩
    · simp at hx
  case h_11 s d x ho =>
    split at hx
    · rename_i d0 k k' m hs hd hxx
      simp only [Option.some.injEq, XR.val.injEq] at hx; subst hx
      have h1 := opv_v hA hxx
      refine ⟨trivial, ?_⟩
      simp only [execOp, ho, h1, conc, Sem.run_bind, convert, run_underlying hs, run_underlying hd, Result.andThen_ok]
      cases d0 <;> simp [Conv.intToInt]
    · simp at hx
  case h_12 x i ho =>
    split at hx
    · rename_i vs hv
      split at hx
      · rename_i v hvi
        simp only [Option.some.injEq, XR.val.injEq] at hx; subst hx
        have h1 := opv_v hA hv
        exact ⟨trivial, by simp [execOp, ho, h1, Instr.extract, hvi, conc]⟩
      · simp at hx
    · simp at hx
  case h_13 c ho =>
    split at hx
    · rename_i x t hc1 hc2 hc3
      have e2 : c.args = #[x] := by rw [← Array.toArray_toList (xs := c.args), hc2]
      have e3 : c.argTypes = #[t] := by rw [← Array.toArray_toList (xs := c.argTypes), hc3]
      split at hx
      · rename_i s hs hu
        simp only [Option.some.injEq, XR.val.injEq] at hx; subst hx
        have h1 := opv_v hA hs
        refine ⟨trivial, ?_⟩
        simp only [execOp, ho, resolve, hc1, e2, e3, invoke, builtin, Builtin.len_, Sem.run_bind, Sem.run_pure, Result.andThen_ok, List.map_toArray, List.map_cons, List.map_nil, h1, conc]
        simp [run_underlying hu, goInt]
      · rename_i a0 nn cc e hs hu
        simp only [Option.some.injEq, XR.val.injEq] at hx; subst hx
        have h1 := opv_v hA hs
        refine ⟨trivial, ?_⟩
        simp only [execOp, ho, resolve, hc1, e2, e3, invoke, builtin, Builtin.len_, Sem.run_bind, Sem.run_pure, Result.andThen_ok, List.map_toArray, List.map_cons, List.map_nil, h1, conc]
        simp [run_underlying hu, goInt]
      · simp at hx
    · rename_i x y hc1 hc2
      have e2 : c.args = #[x, y] := by rw [← Array.toArray_toList (xs := c.args), hc2]
      split at hx
      · rename_i k a1 k' b1 h1 h2
        simp only [Option.some.injEq, XR.val.injEq] at hx; subst hx
        have h1' := opv_v hA h1
        have h2' := opv_v hA h2
        refine ⟨trivial, ?_⟩
        simp only [execOp, ho, resolve, hc1, e2, invoke, builtin, Builtin.min_, Sem.run_bind, Sem.run_pure, Result.andThen_ok, List.map_toArray, List.map_cons, List.map_nil, h1', h2', conc]
        simp [Builtin.min2]
      · simp at hx
    · rename_i x y hc1 hc2
      have e2 : c.args = #[x, y] := by rw [← Array.toArray_toList (xs := c.args), hc2]
      split at hx
      · rename_i k a1 k' b1 h1 h2
        simp only [Option.some.injEq, XR.val.injEq] at hx; subst hx
        have h1' := opv_v hA h1
        have h2' := opv_v hA h2
        refine ⟨trivial, ?_⟩
        simp only [execOp, ho, resolve, hc1, e2, invoke, builtin, Builtin.max_, Sem.run_bind, Sem.run_pure, Result.andThen_ok, List.map_toArray, List.map_cons, List.map_nil, h1', h2', conc]
        simp [Builtin.max2]
      · simp at hx
    · simp at hx
  case h_14 => simp at hx
theorem xop_val {o : Oper} {y : AV} (hx : xop P st.tmps st.boxes st.rows o.op = some (.val y)) (hA : XAct n st ρ σ a) (hH : XHeap w0 st.boxes st.rows facts ρ σ w) :
    y.wf st.boxes.length st.rows.length ∧ (execOp a.eval o).run P w = .ok (.value (conc ρ σ y)) w := xop_rd hx hA hH.rd
end
end Go.Proofs.Ytnmmhbhdcplfmaa
