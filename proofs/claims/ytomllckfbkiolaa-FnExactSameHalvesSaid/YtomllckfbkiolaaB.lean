/- Words and rules for walks that make memory: what a call that only makes new blocks leaves, and the order of blocks' numbers. -/
import Derived.Test.YtomllckfbkiolaaRows
import Derived.Test.YtomllckfbkiolaaM
import Derived.WalkKit
import Derived.ProofKit
import Derived.OpenShut
import Derived.Deep.Slices
import Derived.Deep.QuietTactic
import Derived.BigQuiet
import Derived.Deep.RegionHeld3
import Derived.Deep.MidRow
namespace Go.Proofs.Ytomllckfbkiolaa
open Go.RowKit

/-- A number of blocks of which nothing is known. -/
def gap (k : Nat) : Nat := k
/-- What the rules below leave where a comparison is not decided. -/
def Stuck (_ _ _ : Nat) : Prop := True
def StuckF (a x k : Nat) : Prop := a < x + k
def StuckG (a x k : Nat) : Prop := a ≤ x + k
def StuckE (a x k : Nat) : Prop := a = x + k
theorem lt_gap (a x k : Nat) : (a < x + gap k) = (a < x ∨ StuckF a x (gap k)) := by
  unfold StuckF gap; rw [eq_iff_iff]; omega
theorem le_gap (a x k : Nat) : (a ≤ x + gap k) = (a ≤ x ∨ StuckG a x (gap k)) := by
  unfold StuckG gap; rw [eq_iff_iff]; omega
theorem eq_gap (a x k : Nat) : (a = x + gap k) = (x ≤ a ∧ StuckE a x (gap k)) := by
  unfold StuckE gap; rw [eq_iff_iff]; omega
theorem gap_eq (a x k : Nat) : (x + gap k = a) = (x ≤ a ∧ StuckE a x (gap k)) := by
  unfold StuckE gap; rw [eq_iff_iff]; omega

/-- Behind a call that has only made new blocks: the heap's size, and all old cells and marks. -/
theorem after {W w1 : World} {n : Nat} (hb : Below W.heap.size W w1) (hn : W.heap.size = n) :
    ∃ k, w1.heap.size = n + gap k ∧ (∀ b o, b < n → w1.cell? ⟨b, o, none⟩ = W.cell? ⟨b, o, none⟩) ∧ (∀ b o, b < n → w1.frozen? ⟨b, o, none⟩ = W.frozen? ⟨b, o, none⟩) := by
  have h := hb.size
  exact ⟨w1.heap.size - n, by unfold gap; omega, fun b o h => hb.cell (p := ⟨b, o, none⟩) (by simpa [hn] using h), fun b o h => hb.frozen (p := ⟨b, o, none⟩) (by simpa [hn] using h)⟩
theorem bdrewN {B : Nat} {a w : World} (h : Below B a w) (n : Nat) : Below B a (w.drewN n) := ⟨h.os, h.tape, h.output, h.size, h.block⟩
theorem bstep {B : Nat} {a W w1 : World} (h : Below B a W) (hb : Below W.heap.size W w1) (hB : B ≤ W.heap.size) : Below B a w1 := h.trans (hb.mono hB)
section
open Go.ChangeShapes Go.WideShapes
variable {H : Type} {enc : TypeId × Value → H} {P : Program}
theorem post_of_below {f : Func} {s : ChangeSpec} {apart fresh handsOn again : Bool} {W W' : World} {args : Array Value} {v : Value} {ds gs : List (DataW H)} {before pa pv : List MemPlace}
    (hW : DataW.Whole enc P f.params.toList s.vars apart W args.toList ds gs before)
    (hres : ∀ (b : Nat) (sp : Nat → Bool) (hd : Bool), DataW.TrodAll enc P W' b sp hd f.resultTypes.toList (v.resultList f.resultTypes.size) (s.fn H (ds ++ gs)).results [])
    (hargs : ∀ sp : Nat → Bool, (∀ p ∈ before, sp p.block = true) → DataW.TrodAll enc P W' 0 sp true f.params.toList args.toList (s.fn H (ds ++ gs)).args pa)
    (hvars : ∀ sp : Nat → Bool, (∀ p ∈ before, sp p.block = true) → DataW.TrodVars enc P W' sp s.vars (s.fn H (ds ++ gs)).vars pv)
    (hps : before = pa ++ pv) (hb : Below W.heap.size W W')
    (hok : ∀ (j : Nat) (t : TypeId) (r : Value), f.resultTypes[j]? = some t → (v.resultList f.resultTypes.size)[j]? = some r → Value.okWide P W' .any 0 t r) :
    s.post enc P f apart fresh handsOn again W args v W' := by
  have hlt : ∀ p ∈ before, p.block < W.heap.size := fun p hp => hW.lt p hp
  have hold : ∀ p ∈ before, (fun b => decide (b < W.heap.size)) p.block = true := fun p hp => by simpa using hlt p hp
  refine ⟨ds, gs, before, [], pa, pv, hW, hres _ _ _, hargs _ hold, hvars _ hold, World.keptBut_mono (fun p hp => ⟨hp, ?_⟩) (hb.frame (· ∈ before)), fun _ => ?_⟩
  · rw [hps, List.mem_append] at hp
    exact Or.inr hp
  · obtain ⟨_, _, _, _, _, hz, hn⟩ := hW
    refine ⟨hok, _, _, ([] ++ pa) ++ pv, ⟨[] ++ pa, pv, trodAll_append (hargs _ (fun _ _ => rfl)) (hres _ _ _), hvars _ (fun _ _ => rfl), rfl, ?_, ?_⟩, ?_⟩
    · intro b off hp
      have hin : MemPlace.cell b off ∈ before := by rw [hps]; simpa using hp
      rw [hb.frozen (hlt _ hin)]
      exact hz b off hin
    · intro ha
      have := hn ha
      rw [hps] at this
      simpa using this
    · intro p hp _
      rw [hps]
      simpa using hp
end
end Go.Proofs.Ytomllckfbkiolaa
