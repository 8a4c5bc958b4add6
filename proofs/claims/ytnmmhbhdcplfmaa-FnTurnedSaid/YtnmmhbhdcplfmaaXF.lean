/- Facts of slices, and contracts as the machine wants them. -/
import Derived.Test.YtnmmhbhdcplfmaaXE
import Derived.Test.YtnmmhbhdcplfmaaR
namespace Go.Proofs.Ytnmmhbhdcplfmaa
open Go.RowKit
set_option linter.unusedVariables false
set_option linter.unusedSimpArgs false

theorem Sl.len {w : World} {v : Value} {k : Nat} {rs : List (List Value)} (h : Sl w v k rs) : rs.length ≤ 9223372036854775807 := by
  obtain ⟨a, cap, -, h2, h3, -⟩ := h
  unfold maxLen at h3; omega
def vblk : Value → Option Nat
  | .slice (some a) _ _ => some a.block
  | _ => none
theorem Sl.keepAt {w w' : World} {v : Value} {k : Nat} {rs : List (List Value)} (h : Sl w v k rs) (hs : w.heap.size ≤ w'.heap.size) (hb : ∀ b, (rs ≠ [] ∧ vblk v = some b) → w'.heap[b]? = w.heap[b]?) : Sl w' v k rs := by
  obtain ⟨a, cap, h1, h2, h3, h4, h5⟩ := h
  refine ⟨a, cap, h1, h2, h3, h4, fun i r hr => ?_⟩
  obtain ⟨b, off, h6, h7, h8⟩ := h5 i r hr
  have hk := hb b ⟨fun e => by rw [e] at hr; simp at hr, by rw [h1, h6]; rfl⟩
  refine ⟨b, off, h6, by omega, fun j c hc => ?_⟩
  rw [World.cell?_of_block (a := ⟨b, off + i * k + j, none⟩) hk]
  exact h8 j c hc
def slF (v : Value) (k : Nat) (rs : List (List Value)) : Fact where
  own := false
  p := fun w => Sl w v k rs
  blk := fun b => rs ≠ [] ∧ vblk v = some b
  lt := fun w b h ⟨h1, h2⟩ => by
    obtain ⟨a, cap, rfl, g2, g3, g4, g5⟩ := h
    cases rs with
    | nil => exact absurd rfl h1
    | cons r rs =>
      obtain ⟨b', off, rfl, h7, h8⟩ := g5 0 r rfl
      simp only [vblk, Option.some.injEq] at h2
      omega
  keep := fun w w' h hs hb => h.keepAt hs hb
def ownF (B : Nat) (v : Value) (k : Nat) (rs : List (List Value)) : Fact where
  own := true
  p := fun w => Own w B v k rs
  blk := fun b => rs ≠ [] ∧ vblk v = some b
  lt := fun w b h ⟨h1, h2⟩ => by
    rcases h with ⟨h, _⟩ | ⟨g, off, cap, rfl, g1, g2, g3⟩
    · exact absurd h h1
    · simp only [vblk, Option.some.injEq] at h2; omega
  keep := fun w w' h hs hb => by
    rcases h with h | ⟨g, off, cap, rfl, g1, g2, g3, g4, g5, g6⟩
    · exact .inl h
    · by_cases hr : rs = []
      · subst hr; exact .inr ⟨g, off, cap, rfl, g1, by omega, g3, g4, fun j hj => by simp at hj, fun i r h => by simp at h⟩
      · have hg := hb g ⟨hr, rfl⟩
        refine .inr ⟨g, off, cap, rfl, g1, by omega, g3, g4, fun j hj => ?_, fun i r h j v hv => ?_⟩
        · rw [World.cell?_of_block (a := ⟨g, off + j, none⟩) hg, World.frozen?_of_block (a := ⟨g, off + j, none⟩) hg]; exact g5 j hj
        · rw [World.cell?_of_block (a := ⟨g, off + i * k + j, none⟩) hg]; exact g6 i r h j v hv
section
variable {P : Program} {w0 : World} {fs : List Fact} {f : FuncId} {args : List Value} {v : Value}
theorem xc_s (h : ∀ w, (∀ g ∈ fs, g.p w) → Calls P f args.toArray w fun e w' => e = .returned v ∧ w = w') : XC P w0 fs f args (α := Unit) (fun _ => v) (fun _ => []) :=
  fun w _ hf => (h w hf).mono fun e w' ⟨he, hw⟩ => ⟨(), he, fun g hg => by simp at hg, Apart.nil, by subst hw; exact Below.refl _ _⟩
theorem xc_b (h : ∀ w, (∀ g ∈ fs, g.p w) → Calls P f args.toArray w fun e w' => e = .returned v ∧ Below w.heap.size w w') : XC P w0 fs f args (α := Unit) (fun _ => v) (fun _ => []) :=
  fun w _ hf => (h w hf).mono fun e w' ⟨he, hw⟩ => ⟨(), he, fun g hg => by simp at hg, Apart.nil, hw⟩
end
end Go.Proofs.Ytnmmhbhdcplfmaa
