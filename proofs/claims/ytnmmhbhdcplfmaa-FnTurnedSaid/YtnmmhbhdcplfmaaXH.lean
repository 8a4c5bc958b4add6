/- Rules of the machine for calls and stores that write into memory of the call's own. -/
import Derived.Test.YtnmmhbhdcplfmaaXG
namespace Go.Proofs.Ytnmmhbhdcplfmaa
open Go.RowKit
set_option linter.unusedVariables false
set_option linter.unusedSimpArgs false

def cutW (w : World) (B : Nat) : World := { w with heap := w.heap.extract 0 B }
theorem cutW_size {w : World} {B : Nat} (h : B ≤ w.heap.size) : (cutW w B).heap.size = B := by simp [cutW]; omega
theorem cutW_le (w : World) (B : Nat) : (cutW w B).heap.size ≤ B := by simp [cutW]; omega
theorem cutW_below {w : World} {B : Nat} (h : B ≤ w.heap.size) : Below (cutW w B).heap.size (cutW w B) w :=
  ⟨rfl, rfl, rfl, by rw [cutW_size h]; exact h, fun k hk => by
    rw [cutW_size h] at hk
    simp only [cutW, Array.getElem?_extract]
    simp [hk]; omega⟩
structure Chgd (S : Nat → Prop) (w w' : World) : Prop where
  os : w'.os = w.os
  tape : w'.tape = w.tape
  output : w'.output = w.output
  size : w.heap.size ≤ w'.heap.size
  block : ∀ k, k < w.heap.size → ¬ S k → w'.heap[k]? = w.heap[k]?
def frF (W : World) (S : Nat → Prop) : Fact where
  own := false
  p := fun w => W.heap.size ≤ w.heap.size ∧ ∀ b, b < W.heap.size → ¬ S b → w.heap[b]? = W.heap[b]?
  blk := fun b => b < W.heap.size ∧ ¬ S b
  lt := fun w b h hb => Nat.lt_of_lt_of_le hb.1 h.1
  keep := fun w w' h hs hb => ⟨Nat.le_trans h.1 hs, fun b h1 h2 => (hb b ⟨h1, h2⟩).trans (h.2 b h1 h2)⟩
theorem frF_start (W : World) (S : Nat → Prop) : (frF W S).p W := ⟨Nat.le_refl _, fun _ _ _ => rfl⟩
theorem frF_chgd {W w w0 : World} {S : Nat → Prop} (h : (frF W S).p w) (hb : Below w0.heap.size w0 w) (h1 : w0.os = W.os) (h2 : w0.tape = W.tape) (h3 : w0.output = W.output) : Chgd S W w :=
  ⟨hb.os.trans h1, hb.tape.trans h2, hb.output.trans h3, h.1, h.2⟩
theorem vblk_lo {w : World} {B b : Nat} {v : Value} {k : Nat} {rs : List (List Value)} (h : Own w B v k rs) (hb : rs ≠ [] ∧ vblk v = some b) : B ≤ b := by
  rcases h with ⟨h, _⟩ | ⟨g, off, cap, rfl, h1, h2⟩
  · exact absurd h hb.1
  · simp only [vblk, Option.some.injEq] at hb; omega

section
variable {P : Program} {n : Nat} {w0 : World} {QX : Exit → St → Prop} {st st' : St} {ops : Array Oper} {l : List Oper}
theorem XHeap.stepM {boxes : List Box} {facts : List Fact} {ρ : Nat → Nat} {σ : Nat → Nat × Nat} {w w' : World} (h : XHeap w0 boxes [] facts ρ σ w) {i : Nat} {fi : Fact} (hi : facts[i]? = some fi) (hown : fi.own = true)
    (hlo : ∀ b, fi.blk b → w0.heap.size ≤ b) (hc : Chgd fi.blk w w') : XHeap w0 boxes [] (dropF facts i) ρ σ w' := by
  have hfi := h.fact fi (List.mem_of_getElem? hi)
  refine ⟨⟨hc.os.trans h.below.os, hc.tape.trans h.below.tape, hc.output.trans h.below.output, Nat.le_trans h.below.size hc.size, fun k hk => ?_⟩, fun j b hj => ?_, h.inj, fun k r hr => by simp at hr, fun g hg => ?_, h.apart.dropF i⟩
  · rw [hc.block k (Nat.lt_of_lt_of_le hk h.below.size) (fun hb => by have := hlo k hb; omega)]
    exact h.below.block k hk
  · obtain ⟨h1, h2⟩ := h.box j b hj
    have hjl : j < boxes.length := (List.getElem?_eq_some_iff.1 hj).1
    refine ⟨h1, ?_⟩
    rw [hc.block _ (h.boxLt hjl) (hfi.2 j hjl)]; exact h2
  · obtain ⟨j, hj⟩ := List.getElem?_of_mem hg
    obtain ⟨k, hk, e⟩ := dropF_sub hj
    have hki : i ≠ k := by subst e; split <;> omega
    obtain ⟨g1, g2⟩ := h.fact g (List.mem_of_getElem? hk)
    exact ⟨g.keep w w' g1 hc.size (fun b hb => hc.block b (g.lt w b g1 hb) (fun hf => h.apart i k fi g hi hk hki hown b hf hb)), g2⟩
def XCM (P : Program) (w0 : World) (fs : List Fact) (S : Nat → Prop) (f : FuncId) (args : List Value) {α : Type} (F : α → Value) (G : α → List Fact) : Prop :=
  ∀ w, w0.heap.size ≤ w.heap.size → (∀ g ∈ fs, g.p w) → Calls P f args.toArray w fun e w' => ∃ y, e = .returned (F y) ∧ (∀ g ∈ G y, g.p w' ∧ ∀ b, g.blk b → S b ∨ w.heap.size ≤ b) ∧ Apart (G y) ∧ Chgd S w w'
theorem x_callsM {f : FuncId} {fn : Func} {c : Code} {args : List Value} (fs : List Fact) (B : Nat) {R : Ending → World → Prop} (hf : P.funcs[f]? = some fn) (hb : fn.body = some c) (hn : fn.ntmps = n) (hl : Nat.ble args.length n = true)
    (hB : B ≤ w0.heap.size) (hfs : ∀ g ∈ fs, g.p w0) (hap : Apart fs) (h : XW P n (cutW w0 B) (XPost P (cutW w0 B) fn R) c ⟨argT 0 args, [], [], fs⟩) : Calls P f args.toArray w0 R := by
  have hl' : args.length ≤ n := by simpa using hl
  have hA : XAct n ⟨argT 0 args, [], [], fs⟩ id (fun _ => (0, 0)) { tmps := args.toArray ++ Array.replicate (fn.ntmps - args.toArray.size) undef, defers := [] } := by
    refine ⟨?_, rfl, fun t x ht => ?_⟩
    · simp [hn]; omega
    · obtain ⟨-, v, h1, rfl⟩ := argT_lkp args 0 t x ht
      refine ⟨trivial, ?_⟩
      have hlt : t < args.length := (List.getElem?_eq_some_iff.1 h1).1
      simp only [Nat.sub_zero] at h1
      simp only [conc, Array.getD_eq_getD_getElem?]
      rw [Array.getElem?_append_left (by simpa using hlt)]
      simp [h1]
  have hH : XHeap (cutW w0 B) [] [] fs id (fun _ => (0, 0)) w0 := ⟨cutW_below hB, fun i b hi => by simp at hi, fun i j hi => by simp at hi, fun k r hr => by simp at hr, fun g hg => ⟨hfs g hg, fun i hi => by simp at hi⟩, hap⟩
  refine calls_of_wp hf hb (Code.wp_mono (fun e a w hq => ?_) (h _ _ _ w0 ⟨hA, hH⟩))
  obtain ⟨s, ρ, σ, h1, h2⟩ := hq
  cases e <;> first
    | (obtain ⟨vs, g1, g2⟩ := h1
       exact ⟨h2.1.defers, _, xres_run h2 g1, g2 w h2.2.below (fun g hg => (h2.2.fact g hg).1)⟩)
    | exact h1.elim
end
end Go.Proofs.Ytnmmhbhdcplfmaa
