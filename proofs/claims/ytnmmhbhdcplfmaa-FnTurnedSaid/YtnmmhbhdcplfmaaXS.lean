/- The machine: draws that make a struct with a slice of its own. -/
import Derived.Test.YtnmmhbhdcplfmaaXR
namespace Go.Proofs.Ytnmmhbhdcplfmaa
open Go.RowKit
set_option linter.unusedVariables false
set_option linter.unusedSimpArgs false
def strRow (s : ByteArray) : List Value := [.string s]
def newF (B : Nat) (v : Value) (k : Nat) (rs : List (List Value)) : Fact where
  own := true
  p := fun w => (slF v k rs).p w ∧ ∀ b, (slF v k rs).blk b → B ≤ b
  blk := (slF v k rs).blk
  lt := fun w b h hb => (slF v k rs).lt w b h.1 hb
  keep := fun w w' h hs hb => ⟨(slF v k rs).keep w w' h.1 hs hb, h.2⟩
theorem newF_own {w : World} {B B' K : Nat} {v : Value} {rs : List (List Value)} (h : (ownF B v K rs).p w) (hb : ∀ b, (ownF B v K rs).blk b → B' ≤ b) : (newF B' v K rs).p w := ⟨Own.sl h, hb⟩
theorem newF_row {w : World} {B B' e K : Nat} {v : Value} {rs : List (List Value)} (h : (rowF B e K v rs).p w) (hb : ∀ b, (rowF B e K v rs).blk b → B' ≤ b) : (newF B' v K rs).p w := ⟨rowF_sl h, fun b hbk => hb b (rowF_sblk hbk)⟩
theorem newF_new {w : World} {B B' K : Nat} {v : Value} {rs : List (List Value)} (h : (newF B v K rs).p w) (hb : ∀ b, (newF B v K rs).blk b → B' ≤ b) : (newF B' v K rs).p w := ⟨h.1, hb⟩
theorem newF_lo {w : World} {B K : Nat} {v : Value} {rs : List (List Value)} (h : (newF B v K rs).p w) {b : Nat} (hb : (newF B v K rs).blk b) : B ≤ b := h.2 b hb
theorem own_new {W : World} {f : Fact} {B0 g T N : Nat} {V : Value} {fs : List Fact} {i j k : Nat} (hap : Apart fs) (hi : fs[i]? = some f) (ho : f.own = true) (hj : fs[j]? = some (curF B0 g T V N)) (hk : fs[k]? = some (frF W (fun b => b = g))) (hij : i ≠ j) (hik : i ≠ k) :
    ∀ b, f.blk b → W.heap.size ≤ b := fun b hb => by
  rcases Nat.lt_or_ge b W.heap.size with h | h
  · exact (hap i k _ _ hi hk hik ho b hb ⟨h, fun e => hap i j _ _ hi hj hij ho b hb e⟩).elim
  · exact h
theorem xcm_curN {P : Program} {w0 : World} {fs : List Fact} {f : FuncId} {args : List Value} {B g T N K : Nat} {V : Value} {α : Type} {F : α → Value} {v : α → Value} {rs : α → List (List Value)}
    (h : ∀ w, w0.heap.size ≤ w.heap.size → (∀ g ∈ fs, g.p w) → Calls P f args.toArray w fun e' w' => ∃ y, e' = .returned (F y) ∧ (curF B g T V N).p w' ∧ (newF w.heap.size (v y) K (rs y)).p w' ∧ g < w.heap.size ∧ Chgd (fun b => b = g) w w') :
    XCM P w0 fs (curF B g T V N).blk f args F (fun y => [newF w0.heap.size (v y) K (rs y), curF B g T V N]) := fun w hw hf => (h w hw hf).mono fun e' w' ⟨y, he, hc, hr, hg, hb⟩ =>
  ⟨y, he, fun x hx => by
    simp only [List.mem_cons, List.not_mem_nil, or_false] at hx
    rcases hx with rfl | rfl
    · exact ⟨newF_new hr (fun b hb => Nat.le_trans hw (newF_lo hr hb)), fun b hb => .inr (newF_lo hr hb)⟩
    · exact ⟨hc, fun b hb => .inl hb⟩,
    (Apart.one _).cons fun x hx b hb hxb => by
      obtain rfl : x = curF B g T V N := by simpa using hx
      have e1 : b = g := hxb
      have := newF_lo hr hb
      omega, hb⟩
theorem xc_newF {P : Program} {w0 : World} {fs : List Fact} {f : FuncId} {args : List Value} {K : Nat} {α : Type} {F : α → Value} {v : α → Value} {rs : α → List (List Value)}
    (h : ∀ w, w0.heap.size ≤ w.heap.size → (∀ g ∈ fs, g.p w) → Calls P f args.toArray w fun e' w' => ∃ y, e' = .returned (F y) ∧ (newF w.heap.size (v y) K (rs y)).p w' ∧ Below w.heap.size w w') :
    XC P w0 fs f args F (fun y => [newF w0.heap.size (v y) K (rs y)]) := fun w hw hf => (h w hw hf).mono fun e' w' ⟨y, he, hr, hb⟩ =>
  ⟨y, he, fun x hx => by
    have e1 : x = newF w0.heap.size (v y) K (rs y) := (by simpa using hx)
    subst e1; exact ⟨newF_new hr (fun b hb => Nat.le_trans hw (newF_lo hr hb)), fun b hb => newF_lo hr hb⟩, Apart.one _, hb⟩
section
variable {P : Program} {n : Nat} {w0 : World} {QX : Exit → St → Prop} {st st' : St} {ops : Array Oper} {fuel fuel' : Nat} {listed listed' : Array Bool} {B : List Box} {R : List (List Value)} {ρ : Nat → Nat} {σ : Nat → Nat × Nat}
theorem xe_cut {α : Type} (f : α → St) (fuel' : Nat) (listed' : Array Bool) (h1 : ∀ x, XE P n w0 ops QX fuel' listed' B R ρ σ (f x)) (h2 : (∀ x, XE P n w0 ops QX fuel' listed' B R ρ σ (f x)) → XE P n w0 ops QX fuel listed B R ρ σ st) : XE P n w0 ops QX fuel listed B R ρ σ st := h2 h1
theorem xe_wkL (h : Wk st st') (hl : listed = listed') (h1 : XE P n w0 ops QX fuel listed' B R ρ σ st') : XE P n w0 ops QX fuel listed B R ρ σ st := fun ρ' a w hag hr hS => by
  subst hl; exact h1 ρ' a w hag (h _ _ _ _ _ _ hr) hS
end
end Go.Proofs.Ytnmmhbhdcplfmaa
