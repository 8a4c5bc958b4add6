/- The cursor of the draws: a block of the call's own, of which little is known. -/
import Derived.Test.YtcoppgllfipbeaaXP
namespace Go.Proofs.Ytcoppgllfipbeaa
open Go.RowKit
set_option linter.unusedVariables false
set_option linter.unusedSimpArgs false
def curF (B g T : Nat) (V : Value) (N : Nat) : Fact where
  own := true
  p := fun w => B ≤ g ∧ ∃ (i : Nat) (h : Int), i ≤ N ∧ w.heap[g]? = some (.cells [V, .int .i64 (i : Int), .int .i64 h].toArray T (0, 0))
  blk := fun b => b = g
  lt := fun w b h hb => by subst hb; obtain ⟨_, i, x, _, h⟩ := h; exact (Array.getElem?_eq_some_iff.1 h).1
  keep := fun w w' h hs hb => by obtain ⟨h0, i, x, h1, h2⟩ := h; exact ⟨h0, i, x, h1, (hb g rfl).trans h2⟩
theorem cur_lo {w : World} {B g T : Nat} {V : Value} {N : Nat} (h : (curF B g T V N).p w) {b : Nat} (hb : (curF B g T V N).blk b) : B ≤ b := by
  have e : b = g := hb
  subst e; exact h.1
theorem apart_cell {W : World} {B g T : Nat} {cs : List Value} {f : Fact} (h : ¬ f.blk g) (ho : f.own = false) : Apart [cellF B g T cs, f, frF W (fun b => b = g)] :=
  (Apart.plain (fs := [f, frF W (fun b => b = g)]) (fun x hx => by simp only [List.mem_cons, List.not_mem_nil, or_false] at hx; rcases hx with rfl | rfl <;> first | exact ho | rfl)).cons fun x hx b hb hxb => by
    have e : b = g := hb
    subst e
    simp only [List.mem_cons, List.not_mem_nil, or_false] at hx
    rcases hx with rfl | rfl
    · exact h hxb
    · exact hxb.2 rfl
theorem apart_cur {W : World} {B g T : Nat} {V : Value} {N : Nat} {f : Fact} (h : ¬ f.blk g) (ho : f.own = false) : Apart [curF B g T V N, f, frF W (fun b => b = g)] :=
  (Apart.plain (fs := [f, frF W (fun b => b = g)]) (fun x hx => by simp only [List.mem_cons, List.not_mem_nil, or_false] at hx; rcases hx with rfl | rfl <;> first | exact ho | rfl)).cons fun x hx b hb hxb => by
    have e : b = g := hb
    subst e
    simp only [List.mem_cons, List.not_mem_nil, or_false] at hx
    rcases hx with rfl | rfl
    · exact h hxb
    · exact hxb.2 rfl
/-- A call that moves the cursor. -/
theorem xcm_cur {P : Program} {w0 : World} {fs : List Fact} {f : FuncId} {args : List Value} {B g T N : Nat} {V : Value} {α : Type} {F : α → Value}
    (h : ∀ w, w0.heap.size ≤ w.heap.size → (∀ g ∈ fs, g.p w) → Calls P f args.toArray w fun e w' => ∃ y, e = .returned (F y) ∧ (curF B g T V N).p w' ∧ Chgd (fun b => b = g) w w') :
    XCM P w0 fs (curF B g T V N).blk f args F (fun _ => [curF B g T V N]) := fun w hw hf => (h w hw hf).mono fun e w' ⟨y, he, hc, hb⟩ =>
  ⟨y, he, fun x hx => by
    have e : x = curF B g T V N := (by simpa using hx)
    subst e; exact ⟨hc, fun b hb => .inl hb⟩, Apart.one _, hb⟩
theorem xc_new {P : Program} {w0 : World} {fs : List Fact} {f : FuncId} {args : List Value} {T N : Nat} {V : Value} {Q : Nat → Prop}
    (h : ∀ w, w0.heap.size ≤ w.heap.size → (∀ g ∈ fs, g.p w) → Calls P f args.toArray w fun e w' => ∃ y : {g : Nat // Q g}, e = .returned (.pointer (some ⟨y.1, 0, none⟩)) ∧ (curF w.heap.size y.1 T V N).p w' ∧ Below w.heap.size w w') :
    XC P w0 fs f args (fun y : {g : Nat // Q g} => .pointer (some ⟨y.1, 0, none⟩)) (fun y => [curF w0.heap.size y.1 T V N]) := fun w hw hf => (h w hw hf).mono fun e w' ⟨y, he, hc, hb⟩ =>
  ⟨y, he, fun x hx => by
    have e : x = curF w0.heap.size y.1 T V N := (by simpa using hx)
    subst e; exact ⟨⟨Nat.le_trans hw hc.1, hc.2⟩, fun b hb => by have e : b = y.1 := hb; subst e; exact hc.1⟩, Apart.one _, hb⟩
/-- A variable as its address. -/
theorem xw_pin {P : Program} {n : Nat} {w0 : World} {QX : Exit → St → Prop} {c : Code} {s T : Nat} {cs : List Value} {fs : List Fact}
    (h : ∀ g, w0.heap.size ≤ g → (∀ f ∈ fs, ¬ f.blk g) → XW P n w0 QX c ⟨[(s, .v (.pointer (some ⟨g, 0, none⟩)))], [], [], cellF w0.heap.size g T cs :: fs⟩) : XW P n w0 QX c ⟨[(s, .p 0 0)], [⟨T, cs⟩], [], fs⟩ := fun ρ σ a w hr => by
  obtain ⟨hA, hH⟩ := hr
  have hb := hH.box 0 ⟨T, cs⟩ rfl
  have hn : ∀ f ∈ fs, ¬ f.blk (ρ 0) := fun f hf => (hH.fact f hf).2 0 (by simp)
  refine h (ρ 0) hb.1 hn ρ σ a w ⟨⟨hA.size, hA.defers, fun t x hx => ?_⟩, ⟨hH.below, fun i b hi => by simp at hi, fun i j hi => by simp at hi, fun k r hr => by simp at hr, fun f hf => ?_, hH.apart.cons fun f hf b hb' hfb => ?_⟩⟩
  · have h0 := hA.tmps
    simp only [lkp] at hx h0
    split at hx
    · rename_i e
      simp only [Option.some.injEq] at hx; subst hx
      refine ⟨trivial, ?_⟩
      have := (h0 t (.p 0 0) (by rw [if_pos e])).2
      rw [this]; simp only [conc]
    · simp at hx
  · rcases List.mem_cons.1 hf with rfl | hf
    · exact ⟨⟨hb.1, hb.2⟩, fun i hi => by simp at hi⟩
    · exact ⟨(hH.fact f hf).1, fun i hi => by simp at hi⟩
  · have e : b = ρ 0 := hb'
    subst e; exact hn f hf hfb
theorem apart_cur2 {W : World} {B g T : Nat} {V : Value} {N : Nat} {f f2 : Fact} (h : ¬ f.blk g) (ho : f.own = false) (h2 : ¬ f2.blk g) (ho2 : f2.own = false) : Apart [curF B g T V N, f, frF W (fun b => b = g), f2] :=
  (Apart.plain (fs := [f, frF W (fun b => b = g), f2]) (fun x hx => by simp only [List.mem_cons, List.not_mem_nil, or_false] at hx; rcases hx with rfl | rfl | rfl <;> first | exact ho | exact ho2 | rfl)).cons fun x hx b hb hxb => by
    have e : b = g := hb
    subst e
    simp only [List.mem_cons, List.not_mem_nil, or_false] at hx
    rcases hx with rfl | rfl | rfl
    · exact h hxb
    · exact hxb.2 rfl
    · exact h2 hxb
theorem rowF_sblk {B e K k : Nat} {v : Value} {rs rs' : List (List Value)} {b : Nat} (h : (slF v k rs').blk b) : (rowF B e K v rs).blk b := by
  have := h.2; rw [vblk_eq] at this; exact this
theorem xl_know {P : Program} {n : Nat} {w0 : World} {QX : Exit → St → Prop} {ops : Array Oper} {l : List Oper} {st : St} {φ : Prop} (h : ∀ ρ σ a w, XRep n w0 st ρ σ a w → φ) (hn : φ → XL P n w0 ops QX l st) : XL P n w0 ops QX l st := fun ρ σ a w hr => hn (h ρ σ a w hr) ρ σ a w hr
theorem xs_know {P : Program} {n : Nat} {w0 : World} {QX : Exit → St → Prop} {ops : Array Oper} {st : St} {fuel : Nat} {listed : Array Bool} {B : List Box} {R : List (List Value)} {ρ : Nat → Nat} {σ : Nat → Nat × Nat} {i : Nat} {φ : Prop} (h : ∀ ρ σ a w, XRep n w0 st ρ σ a w → φ)
    (hn : φ → XEs P n w0 ops QX fuel listed B R ρ σ st i) : XEs P n w0 ops QX fuel listed B R ρ σ st i := fun ρ' a w hag hr hS => hn (h _ _ _ _ hr) ρ' a w hag hr hS
theorem tmod_bd {a n : Int} (h : 0 ≤ a) (hn : 0 < n) : 0 ≤ a.tmod n ∧ (0 < n → a.tmod n < n) := by
  rw [Int.tmod_eq_emod_of_nonneg h]
  exact ⟨Int.emod_nonneg _ (by omega), fun _ => Int.emod_lt_of_pos _ hn⟩
end Go.Proofs.Ytcoppgllfipbeaa
