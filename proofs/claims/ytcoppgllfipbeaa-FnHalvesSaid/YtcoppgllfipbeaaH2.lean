/- Plain laws: half-open connections (no program in sight). -/
import Derived.Test.YtcoppgllfipbeaaH1
namespace Go.Proofs.Ytcoppgllfipbeaa
open Go.RowKit
def hOne (l : List Hlf) (i : Nat) (h : Hlf) : Bool := tupleOk h.t && (wordOk h.iss 32 && (wordOk h.irs 32 && (wordOk h.window 16 && (optionsOk h.o && (inB h.age 0 6 && decide (findHalf l h.t = (i : Int)))))))
def allH (l : List Hlf) : List Hlf → Nat → Bool
  | [], _ => true
  | h :: r, i => hOne l i h && allH l r (i + 1)
def halvesOk (l : List Hlf) : Bool := decide (l.length ≤ 64) && allH l l 0
def putHalf (l : List Hlf) (h : Hlf) (most : Int) : List Hlf × Bool := if (l.length : Int) ≥ most then (l, false) else if halvesOk (l ++ [h]) then (l ++ [h], true) else (l, false)
def dropHalf (l : List Hlf) (t : Tup) : List Hlf := if findHalf l t < 0 then l else l.take (findHalf l t).toNat ++ l.drop ((findHalf l t).toNat + 1)
theorem allH_no {l : List Hlf} : ∀ (r : List Hlf) (i k : Nat) (h : Hlf), r[k]? = some h → hOne l (i + k) h = false → allH l r i = false
  | [], i, k, h, hk, _ => by simp at hk
  | x :: r, i, 0, h, hk, hh => by
    simp at hk; subst hk
    simp only [Nat.add_zero] at hh
    simp [allH, hh]
  | x :: r, i, k + 1, h, hk, hh => by
    have := allH_no r (i + 1) k h (by simpa using hk) (by rw [show i + 1 + k = i + (k + 1) by omega]; exact hh)
    simp [allH, this]
theorem allH_yes {l : List Hlf} : ∀ (r : List Hlf) (i : Nat), (∀ (k : Nat) (h : Hlf), r[k]? = some h → hOne l (i + k) h = true) → allH l r i = true
  | [], _, _ => rfl
  | x :: r, i, hh => by
    have h0 := hh 0 x rfl
    simp only [Nat.add_zero] at h0
    have h1 := allH_yes r (i + 1) (fun k h hk => by rw [show i + 1 + k = i + (k + 1) by omega]; exact hh (k + 1) h (by simpa using hk))
    simp [allH, h0, h1]
theorem halvesOk_no {l : List Hlf} {k : Nat} {x : Hlf} (hx : l[k]? = some x) (h : hOne l k x = false) : halvesOk l = false := by
  unfold halvesOk; rw [allH_no l 0 k x hx (by rw [Nat.zero_add]; exact h)]; simp
theorem halvesOk_all {l : List Hlf} {k : Nat} (hk : k = l.length) (h : ∀ (i : Nat) (x : Hlf), i < k → l[i]? = some x → hOne l i x = true) : halvesOk l = decide (l.length ≤ 64) := by
  unfold halvesOk
  rw [allH_yes l 0 (fun i x hi => by rw [Nat.zero_add]; exact h i x (by rw [hk]; exact (List.getElem?_eq_some_iff.1 hi).1) hi)]; simp
theorem halvesOk_long {l : List Hlf} (h : 64 < l.length) : halvesOk l = false := by
  unfold halvesOk; simp; intro; omega
theorem half_step {l : List Hlf} {k : Nat} {x : Hlf} (hx : l[k]? = some x) (h : hOne l k x = true) (hk : ∀ (i : Nat) (x : Hlf), i < k → l[i]? = some x → hOne l i x = true) : ∀ (i : Nat) (x : Hlf), i < k + 1 → l[i]? = some x → hOne l i x = true := fun i y hi hy => by
  rcases Nat.lt_succ_iff_lt_or_eq.1 hi with hi | rfl
  · exact hk i y hi hy
  · rw [hx] at hy; simp only [Option.some.injEq] at hy; subst hy; exact h
theorem tupEq_self (t : Tup) : tupEq t t = true := by simp [tupEq]
theorem findHalf_le {l : List Hlf} {k : Nat} {x : Hlf} (hx : l[k]? = some x) : ∃ j, l.findIdx? (fun h => tupEq h.t x.t) = some j ∧ j ≤ k := by
  cases hf : l.findIdx? (fun h => tupEq h.t x.t) with
  | none =>
    rw [List.findIdx?_eq_none_iff] at hf
    have := hf x (List.mem_of_getElem? hx)
    rw [tupEq_self] at this; cases this
  | some j =>
    refine ⟨j, rfl, ?_⟩
    rcases Nat.lt_or_ge k j with h | h
    · obtain ⟨hj, -, hn⟩ := List.findIdx?_eq_some_iff_getElem.1 hf
      obtain ⟨hk, e⟩ := List.getElem?_eq_some_iff.1 hx
      have := hn k h
      rw [e, tupEq_self] at this; simp at this
    · exact h
theorem findHalf_pre {l : List Hlf} {k : Nat} {x : Hlf} (hx : l[k]? = some x) : (0 ≤ findHalf ((l.drop 0).take (k - 0)) x.t) ↔ ¬ findHalf l x.t = (k : Int) := by
  obtain ⟨j, hj, hjk⟩ := findHalf_le hx
  have e2 : findHalf l x.t = (j : Int) := by unfold findHalf idxOf; rw [hj]
  rw [e2, List.drop_zero, Nat.sub_zero]
  unfold findHalf idxOf
  rcases Nat.lt_or_ge j k with h | h
  · have : (l.take k).findIdx? (fun h => tupEq h.t x.t) = some j := by
      obtain ⟨h1, h2, h3⟩ := List.findIdx?_eq_some_iff_getElem.1 hj
      rw [List.findIdx?_eq_some_iff_getElem]
      refine ⟨by simp; omega, by simpa using h2, fun i hi => by simpa using h3 i hi⟩
    rw [this]; simp; omega
  · have : (l.take k).findIdx? (fun h => tupEq h.t x.t) = none := by
      obtain ⟨h1, h2, h3⟩ := List.findIdx?_eq_some_iff_getElem.1 hj
      rw [List.findIdx?_eq_none_iff]
      intro y hy
      obtain ⟨i, hi, rfl⟩ := List.mem_take_iff_getElem.1 hy
      have := h3 i (by omega)
      simpa using this
    rw [this]; simp; omega
theorem findHalf_bd (l : List Hlf) (t : Tup) : -1 ≤ findHalf l t ∧ findHalf l t < l.length := by
  unfold findHalf idxOf
  cases h : l.findIdx? (fun h => tupEq h.t t) with
  | none => dsimp only; omega
  | some i =>
    obtain ⟨h1, -, -⟩ := List.findIdx?_eq_some_iff_getElem.1 h
    dsimp only; omega
theorem dropHalf_no {l : List Hlf} {t : Tup} (h : findHalf l t < 0) : dropHalf l t = l := by unfold dropHalf; rw [if_pos h]
theorem dropHalf_yes {l : List Hlf} {t : Tup} (h : ¬ findHalf l t < 0) : dropHalf l t = l.take (findHalf l t).toNat ++ l.drop ((findHalf l t).toNat + 1) := by unfold dropHalf; rw [if_neg h]
theorem dropHalf_parts {l : List Hlf} {t : Tup} (h : ¬ findHalf l t < 0) : dropHalf l t = ((l.drop 0).take ((findHalf l t).toNat - 0)) ++ ((l.drop (findHalf l t + 1).toNat).take (l.length - (findHalf l t + 1).toNat)) := by
  rw [dropHalf_yes h, List.drop_zero, Nat.sub_zero, show (findHalf l t + 1).toNat = (findHalf l t).toNat + 1 by omega]
  congr 1
  rw [List.take_of_length_le (by simp)]
theorem dropHalf_bd (l : List Hlf) (t : Tup) (h : l.length ≤ 1048576) : (dropHalf l t).length ≤ 1048576 := by
  unfold dropHalf; split
  · exact h
  · simp; omega
theorem putHalf_bd (l : List Hlf) (h : Hlf) (m : Int) (hl : l.length ≤ 1048576) : (putHalf l h m).1.length ≤ 1048576 := by
  unfold putHalf; split
  · exact hl
  · split
    · rename_i hh; unfold halvesOk at hh; simp only [Bool.and_eq_true, decide_eq_true_eq] at hh; dsimp only; omega
    · exact hl
end Go.Proofs.Ytcoppgllfipbeaa
