/- Plain laws: half-open connections that age (no program in sight). -/
import Derived.Test.YtcoppgllfipbeaaH2
namespace Go.Proofs.Ytcoppgllfipbeaa
open Go.RowKit
def ageOne (h : Hlf) : List Hlf := if h.age + 1 ≤ 6 then [{ h with age := h.age + 1 }] else []
def agedH (l : List Hlf) : List Hlf := l.flatMap ageOne
theorem aged_step {l bs : List Hlf} {k : Nat} {x : Hlf} (hx : l[k]? = some x) (h : agedH l = bs ++ (l.drop k).flatMap ageOne) : agedH l = (bs ++ ageOne x) ++ (l.drop (k + 1)).flatMap ageOne := by
  obtain ⟨hlt, e⟩ := List.getElem?_eq_some_iff.1 hx
  rw [h, List.drop_eq_getElem_cons hlt, List.flatMap_cons, e, List.append_assoc]
theorem aged_yes {x : Hlf} (h : x.age + 1 ≤ 6) : ageOne x = [{ x with age := x.age + 1 }] := by unfold ageOne; rw [if_pos h]
theorem aged_no {x : Hlf} (h : ¬ x.age + 1 ≤ 6) : ageOne x = [] := by unfold ageOne; rw [if_neg h]
theorem ageOne_len (x : Hlf) : (ageOne x).length ≤ 1 := by unfold ageOne; split <;> simp
theorem aged_end {l bs : List Hlf} {k : Nat} (hk : k = l.length) (h : agedH l = bs ++ (l.drop k).flatMap ageOne) : agedH l = bs := by
  subst hk; rw [h, List.drop_length]; simp
theorem aged_mem {l : List Hlf} {h : Hlf} (hh : h ∈ agedH l) : ∃ x ∈ l, x.age + 1 ≤ 6 ∧ h = { x with age := x.age + 1 } := by
  unfold agedH at hh
  obtain ⟨x, hx, hm⟩ := List.mem_flatMap.1 hh
  unfold ageOne at hm
  split at hm
  · exact ⟨x, hx, by assumption, by simpa using hm⟩
  · simp at hm
theorem aged_le (l : List Hlf) : (agedH l).length ≤ l.length := by
  unfold agedH
  induction l with
  | nil => simp
  | cons x l ih => rw [List.flatMap_cons, List.length_append, List.length_cons]; have := ageOne_len x; omega
theorem putHalf_le (l : List Hlf) (h : Hlf) (m : Int) : (putHalf l h m).1.length ≤ l.length + 1 := by
  unfold putHalf; split
  · simp
  · split <;> simp
theorem put_no {l : List Hlf} {h : Hlf} {m : Int} (hn : (putHalf l h m).2 = false) : (putHalf l h m).1 = l := by
  unfold putHalf at hn ⊢; split
  · rfl
  · rename_i h1; rw [if_neg h1] at hn; split
    · rename_i h2; rw [if_pos h2] at hn; simp at hn
    · rfl
theorem put_yes {l : List Hlf} {h : Hlf} {m : Int} (hn : (putHalf l h m).2 = true) : (putHalf l h m).1 = l ++ [h] ∧ (l.length : Int) < m ∧ halvesOk (l ++ [h]) = true := by
  unfold putHalf at hn ⊢; split
  · rename_i h1; rw [if_pos h1] at hn; simp at hn
  · rename_i h1; rw [if_neg h1] at hn; split
    · rename_i h2; exact ⟨rfl, by omega, h2⟩
    · rename_i h2; rw [if_neg h2] at hn; simp at hn
theorem okh_one {l : List Hlf} (h : halvesOk l = true) : ∀ (r : List Hlf) (i : Nat), allH l r i = true → ∀ (k : Nat) (x : Hlf), r[k]? = some x → hOne l (i + k) x = true
  | [], i, _, k, x, hx => by simp at hx
  | y :: r, i, ha, 0, x, hx => by simp at hx; subst hx; simp only [allH, Bool.and_eq_true] at ha; exact ha.1
  | y :: r, i, ha, k + 1, x, hx => by
    simp only [allH, Bool.and_eq_true] at ha
    have := okh_one h r (i + 1) ha.2 k x (by simpa using hx)
    rw [show i + (k + 1) = i + 1 + k by omega]; exact this
theorem ok_at {l : List Hlf} (h : halvesOk l = true) {k : Nat} {x : Hlf} (hx : l[k]? = some x) : hOne l k x = true := by
  have h2 := h
  unfold halvesOk at h2; simp only [Bool.and_eq_true] at h2
  have := okh_one h l 0 h2.2 k x hx
  rwa [Nat.zero_add] at this
theorem ok_find {l : List Hlf} {h : Hlf} (hk : halvesOk (l ++ [h]) = true) : findHalf (l ++ [h]) h.t = (l.length : Int) := by
  have := ok_at hk (k := l.length) (x := h) (by simp)
  simp only [hOne, Bool.and_eq_true, decide_eq_true_eq] at this
  exact this.2.2.2.2.2.2
theorem ok_drop {l : List Hlf} {h : Hlf} (hk : halvesOk (l ++ [h]) = true) : dropHalf (l ++ [h]) h.t = l := by
  have e := ok_find hk
  rw [dropHalf_yes (by rw [e]; omega), e]
  simp
theorem ok_age {l : List Hlf} (hk : halvesOk l = true) : ∀ x ∈ l, 0 ≤ x.age ∧ x.age ≤ 6 := fun x hx => by
  obtain ⟨k, hk'⟩ := List.getElem?_of_mem hx
  have := ok_at hk hk'
  simp only [hOne, Bool.and_eq_true, inB_tt] at this
  exact this.2.2.2.2.2.1
theorem age_next {l : List Hlf} {i : Nat} (h : ∀ x ∈ l, (i : Int) ≤ x.age ∧ x.age ≤ 6) : ∀ x ∈ agedH l, ((i + 1 : Nat) : Int) ≤ x.age ∧ x.age ≤ 6 := fun x hx => by
  obtain ⟨y, hy, h1, rfl⟩ := aged_mem hx
  have := h y hy
  dsimp only; omega
theorem age_end {l : List Hlf} (h : ∀ x ∈ l, (7 : Int) ≤ x.age ∧ x.age ≤ 6) : l = [] := by
  cases l with
  | nil => rfl
  | cons x l => have := h x (by simp); omega
theorem hlfEq_self (h : Hlf) : hlfEq h h = true := by simp [hlfEq, tupEq, optEq]
theorem sameH_self (l : List Hlf) : sameL hlfEq l l = true := sameL_yes rfl fun i x y h1 h2 => by
  rw [h1] at h2; simp only [Option.some.injEq] at h2; subst h2; exact hlfEq_self x
end Go.Proofs.Ytcoppgllfipbeaa
