/- A small machine on abstract states: what an operation does to known variables, checked by the kernel's reckoning; and that the model's operation does the same. -/
import Derived.WalkKit
import Derived.ProofKit
import Derived.Deep.MidRow
import Derived.OrdersHeld
import Derived.Below
namespace Go.Proofs.Ytnmmhbhdcplfmaa
open Go.RowKit
set_option linter.unusedVariables false
set_option linter.unusedSimpArgs false

inductive AV where
  | v (x : Value)
  | p (i off : Nat)
  | r (h off : Nat)
structure Box where
  ty : TypeId
  cells : List Value
structure Fact where
  own : Bool
  p : World → Prop
  blk : Nat → Prop
  lt : ∀ w b, p w → blk b → b < w.heap.size
  keep : ∀ w w', p w → w.heap.size ≤ w'.heap.size → (∀ b, blk b → w'.heap[b]? = w.heap[b]?) → p w'
structure St where
  tmps : List (Nat × AV)
  boxes : List Box
  rows : List (List Value)
  facts : List Fact

def conc (ρ : Nat → Nat) (σ : Nat → Nat × Nat) : AV → Value
  | .v x => x
  | .p i off => .pointer (some ⟨ρ i, off, none⟩)
  | .r h off => .pointer (some ⟨(σ h).1, (σ h).2 + off, none⟩)
def AV.wf (nb nr : Nat) : AV → Prop
  | .v _ => True
  | .p i _ => i < nb
  | .r h _ => h < nr
def lkp : List (Nat × AV) → Nat → Option AV
  | [], _ => none
  | (k, x) :: l, t => if Nat.beq k t then some x else lkp l t
def del : List (Nat × AV) → Nat → List (Nat × AV)
  | [], _ => []
  | (k, x) :: l, t => if Nat.beq k t then del l t else (k, x) :: del l t
def putT (l : List (Nat × AV)) (t : Option Nat) (x : AV) : List (Nat × AV) := match t with | some t => (t, x) :: del l t | none => l
def keepT (l : List (Nat × AV)) : List Nat → Option (List (Nat × AV))
  | [] => some []
  | t :: r => match lkp l t, keepT l r with
    | some x, some y => some ((t, x) :: y)
    | _, _ => none

theorem lkp_del (l : List (Nat × AV)) (t u : Nat) : lkp (del l t) u = if t = u then none else lkp l u := by
  induction l with
  | nil => simp [del, lkp]
  | cons y l ih =>
    obtain ⟨k, x⟩ := y
    simp only [del]
    by_cases hk : k = t
    · subst hk
      simp only [Nat.beq_refl, if_true, ih]
      by_cases hu : k = u
      · simp [hu]
      · simp only [hu, if_false, lkp]
        rw [if_neg (by simpa using hu)]
    · rw [if_neg (by simpa using hk)]
      simp only [lkp, ih]
      by_cases hu : k = u
      · subst hu; simp [Ne.symm hk]
      · have hb : Nat.beq k u = false := by rw [← Bool.not_eq_true]; exact fun e => hu (Nat.eq_of_beq_eq_true e)
        simp only [hb, Bool.false_eq_true, if_false]
theorem lkp_keep (l : List (Nat × AV)) : ∀ (ks : List Nat) (l' : List (Nat × AV)), keepT l ks = some l' → ∀ t x, lkp l' t = some x → lkp l t = some x
  | [], l', h, t, x, hx => by simp [keepT] at h; subst h; simp [lkp] at hx
  | k :: ks, l', h, t, x, hx => by
    simp only [keepT] at h
    split at h
    · rename_i y z hy hz
      simp only [Option.some.injEq] at h
      subst h
      simp only [lkp] at hx
      split at hx
      · rename_i hb
        have : k = t := by simpa using hb
        subst this
        rw [hy, hx]
      · exact lkp_keep l ks z hz t x hx
    · simp at h

def Apart (fs : List Fact) : Prop := ∀ (i j : Nat) (f g : Fact), fs[i]? = some f → fs[j]? = some g → i ≠ j → f.own = true → ∀ b, f.blk b → ¬ g.blk b
theorem Apart.nil : Apart [] := fun i j f g h => by simp at h
theorem Apart.one (f : Fact) : Apart [f] := fun i j f' g h1 h2 hij => by
  have := (List.getElem?_eq_some_iff.1 h1).1
  have := (List.getElem?_eq_some_iff.1 h2).1
  simp at *; omega
theorem Apart.cons {f : Fact} {fs : List Fact} (h : Apart fs) (hf : ∀ g ∈ fs, ∀ b, f.blk b → ¬ g.blk b) : Apart (f :: fs) := fun i j f' g h1 h2 hij ho b h3 h4 => by
  cases i with
  | zero =>
    simp at h1; subst h1
    cases j with
    | zero => exact hij rfl
    | succ j => simp at h2; exact hf g (List.mem_of_getElem? h2) b h3 h4
  | succ i =>
    simp at h1
    cases j with
    | zero => simp at h2; subst h2; exact hf f' (List.mem_of_getElem? h1) b h4 h3
    | succ j => simp at h2; exact h i j f' g h1 h2 (by omega) ho b h3 h4
theorem Apart.plain {fs : List Fact} (h : ∀ f ∈ fs, f.own = false) : Apart fs := fun i j f g h1 h2 hij ho => by
  rw [h f (List.mem_of_getElem? h1)] at ho; cases ho
theorem Apart.append {fs gs : List Fact} (h1 : Apart fs) (h2 : Apart gs) (h : ∀ f ∈ fs, ∀ g ∈ gs, ∀ b, f.blk b → ¬ g.blk b) : Apart (fs ++ gs) := fun i j f g hi hj hij ho b hb hb' => by
  by_cases i1 : i < fs.length
  · rw [List.getElem?_append_left i1] at hi
    by_cases j1 : j < fs.length
    · rw [List.getElem?_append_left j1] at hj; exact h1 i j f g hi hj hij ho b hb hb'
    · rw [List.getElem?_append_right (by omega)] at hj; exact h f (List.mem_of_getElem? hi) g (List.mem_of_getElem? hj) b hb hb'
  · rw [List.getElem?_append_right (by omega)] at hi
    by_cases j1 : j < fs.length
    · rw [List.getElem?_append_left j1] at hj; exact h g (List.mem_of_getElem? hj) f (List.mem_of_getElem? hi) b hb' hb
    · rw [List.getElem?_append_right (by omega)] at hj; exact h2 _ _ f g hi hj (by omega) ho b hb hb'

structure XHeap (w0 : World) (boxes : List Box) (rows : List (List Value)) (facts : List Fact) (ρ : Nat → Nat) (σ : Nat → Nat × Nat) (w : World) : Prop where
  below : Below w0.heap.size w0 w
  box : ∀ i b, boxes[i]? = some b → w0.heap.size ≤ ρ i ∧ w.heap[ρ i]? = some (.cells b.cells.toArray b.ty (0, 0))
  inj : ∀ i j, i < boxes.length → j < boxes.length → ρ i = ρ j → i = j
  row : ∀ h r, rows[h]? = some r → w.rangeAt (σ h).1 (σ h).2 r ∧ (σ h).1 < w.heap.size ∧ ∀ i, i < boxes.length → (σ h).1 ≠ ρ i
  fact : ∀ f ∈ facts, f.p w ∧ ∀ i, i < boxes.length → ¬ f.blk (ρ i)
  apart : Apart facts
structure XAct (n : Nat) (st : St) (ρ : Nat → Nat) (σ : Nat → Nat × Nat) (a : Act) : Prop where
  size : a.tmps.size = n
  defers : a.defers = []
  tmps : ∀ t x, lkp st.tmps t = some x → x.wf st.boxes.length st.rows.length ∧ a.tmps.getD t undef = conc ρ σ x
def XRep (n : Nat) (w0 : World) (st : St) (ρ : Nat → Nat) (σ : Nat → Nat × Nat) (a : Act) (w : World) : Prop :=
  XAct n st ρ σ a ∧ XHeap w0 st.boxes st.rows st.facts ρ σ w

section
variable {w0 : World} {boxes : List Box} {rows : List (List Value)} {facts : List Fact} {ρ : Nat → Nat} {σ : Nat → Nat × Nat} {w w' : World}
theorem XHeap.boxLt (h : XHeap w0 boxes rows facts ρ σ w) {i : Nat} (hi : i < boxes.length) : ρ i < w.heap.size := by
  have := (h.box i _ (List.getElem?_eq_getElem hi)).2
  exact (Array.getElem?_eq_some_iff.1 this).1
theorem XHeap.step (h : XHeap w0 boxes rows facts ρ σ w) (hb : Below w.heap.size w w') : XHeap w0 boxes rows facts ρ σ w' where
  below := h.below.trans (hb.mono h.below.size)
  box := fun i b hi => by
    obtain ⟨h1, h2⟩ := h.box i b hi
    exact ⟨h1, (hb.block _ (Array.getElem?_eq_some_iff.1 h2).1).trans h2⟩
  inj := h.inj
  row := fun k r hr => by
    obtain ⟨h1, h2, h3⟩ := h.row k r hr
    refine ⟨fun j v hv => ?_, Nat.lt_of_lt_of_le h2 hb.size, h3⟩
    rw [hb.cell (p := ⟨(σ k).1, (σ k).2 + j, none⟩) h2]
    exact h1 j v hv
  fact := fun f hf => by
    obtain ⟨h1, h2⟩ := h.fact f hf
    exact ⟨f.keep w w' h1 hb.size (fun b hbk => hb.block b (f.lt w b h1 hbk)), h2⟩
  apart := h.apart
structure XRd (boxes : List Box) (rows : List (List Value)) (ρ : Nat → Nat) (σ : Nat → Nat × Nat) (w : World) : Prop where
  box : ∀ i b, boxes[i]? = some b → ρ i < w.heap.size ∧ w.rangeAt (ρ i) 0 b.cells
  row : ∀ h r, rows[h]? = some r → (σ h).1 < w.heap.size ∧ w.rangeAt (σ h).1 (σ h).2 r
theorem XHeap.drew (h : XHeap w0 boxes rows facts ρ σ w) : XHeap w0 boxes rows facts ρ σ w.drew := h.step ((Below.refl _ _).drew)
theorem XHeap.add (h : XHeap w0 boxes rows facts ρ σ w) (f : Fact) (hf : f.p w) (hn : ∀ i, i < boxes.length → ¬ f.blk (ρ i)) (ha : ∀ g ∈ facts, ∀ b, f.blk b → ¬ g.blk b) : XHeap w0 boxes rows (f :: facts) ρ σ w :=
  ⟨h.below, h.box, h.inj, h.row, fun g hg => (List.mem_cons.1 hg).elim (fun e => by subst e; exact ⟨hf, hn⟩) (fun hg => h.fact g hg), h.apart.cons ha⟩
theorem XHeap.cells (h : XHeap w0 boxes rows facts ρ σ w) {i : Nat} {b : Box} (hi : boxes[i]? = some b) (o : Nat) : w.cell? ⟨ρ i, o, none⟩ = b.cells[o]? := by
  rw [cell_of_row w (ρ i) o _ b.ty (0, 0) (h.box i b hi).2]; simp
theorem XHeap.rd (h : XHeap w0 boxes rows facts ρ σ w) : XRd boxes rows ρ σ w where
  box := fun i b hi => ⟨(Array.getElem?_eq_some_iff.1 (h.box i b hi).2).1, fun j v hv => by rw [Nat.zero_add, h.cells hi]; exact hv⟩
  row := fun k r hr => ⟨(h.row k r hr).2.1, (h.row k r hr).1⟩
theorem XHeap.frozen (h : XHeap w0 boxes rows facts ρ σ w) {i : Nat} {b : Box} (hi : boxes[i]? = some b) (o : Nat) : w.frozen? ⟨ρ i, o, none⟩ = false :=
  frozen_of_row w (ρ i) o _ b.ty (h.box i b hi).2
end
end Go.Proofs.Ytnmmhbhdcplfmaa
