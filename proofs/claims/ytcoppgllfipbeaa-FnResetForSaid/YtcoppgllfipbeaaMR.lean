/- Plain laws: resets (no program in sight). -/
import Derived.Test.YtcoppgllfipbeaaME
import Derived.Test.YtcoppgllfipbeaaE
import Derived.Test.YtcoppgllfipbeaaXL
namespace Go.Proofs.Ytcoppgllfipbeaa
open Go.RowKit
theorem segEq_self (g : Seg) : segEq g g = true := by simp [segEq, optEq]
theorem resetFor_bd (g : Seg) : (resetFor g).1.body.size ≤ 1048576 := by
  unfold resetFor zeroSeg; (repeat' split) <;> exact Nat.zero_le _
theorem rf_no {g : Seg} (h : (resetFor g).2 = false) : hasF g.flags 4 = true := by
  unfold resetFor at h; split at h
  · assumption
  · split at h <;> simp at h
theorem rf_law (g : Seg) (h : (resetFor g).2 = true) : (resetFor (resetFor g).1).2 = false ∧ (resetFor g).1.src = g.dst ∧ (resetFor g).1.dst = g.src ∧ (IntKind.i64.wrap (BitVec.ofInt 64 (resetFor g).1.flags &&& BitVec.ofInt 64 4).toNat) ≠ 0 ∧ (hasF g.flags 16 = false ∨ (resetFor g).1.seq = g.ack) := by
  unfold resetFor at h ⊢
  by_cases h4 : hasF g.flags 4 = true
  · rw [if_pos h4] at h; simp at h
  · rw [if_neg h4]
    by_cases h16 : hasF g.flags 16 = true
    · rw [if_pos h16]
      refine ⟨?_, rfl, rfl, ?_, .inr rfl⟩
      · have : hasF 4 4 = true := by decide
        simp [this]
      · dsimp only; decide
    · rw [if_neg h16]
      refine ⟨?_, rfl, rfl, ?_, .inl (by simpa using h16)⟩
      · have : hasF 20 4 = true := by decide
        simp [this]
      · dsimp only; decide
theorem and16 (x : Int) (h : hasF x 16 = false) : IntKind.i64.wrap (BitVec.ofInt 64 x &&& BitVec.ofInt 64 16).toNat = 0 := by
  have hb : bits .and .i64 x 16 = IntKind.i64.wrap (BitVec.ofInt 64 x &&& BitVec.ofInt 64 16).toNat := rfl
  unfold hasF at h
  rw [hb] at h
  have key : (BitVec.ofInt 64 x &&& BitVec.ofInt 64 16) = 0#64 ∨ (BitVec.ofInt 64 x &&& BitVec.ofInt 64 16) = 16#64 := by
    generalize BitVec.ofInt 64 x = y
    have e16 : BitVec.ofInt 64 16 = BitVec.twoPow 64 4 := by decide
    rw [e16, BitVec.and_twoPow]
    cases y.getLsbD 4
    · left; rfl
    · right; decide
  rcases key with k | k
  · rw [k]; decide
  · rw [k] at h; exact absurd h (by decide)
theorem rf_all (g : Seg) (h : (resetFor g).2 = true) : ((!((resetFor ((resetFor g).1)).2)) && ((((resetFor g).1.src) == g.dst) && ((((resetFor g).1.dst) == g.src) && (((IntKind.i64.wrap (BitVec.ofInt 64 ((resetFor g).1.flags) &&& BitVec.ofInt 64 4).toNat) != 0) && (((IntKind.i64.wrap (BitVec.ofInt 64 g.flags &&& BitVec.ofInt 64 16).toNat) == 0) || (((resetFor g).1.seq) == g.ack)))))) = true := by
  obtain ⟨a1, a2, a3, a4, a5⟩ := rf_law g h
  simp only [Bool.and_eq_true, Bool.or_eq_true, bne_iff_ne, ne_eq, beq_iff_eq, Bool.not_eq_true']
  exact ⟨a1, a2, a3, a4, a5.imp (and16 _) id⟩
end Go.Proofs.Ytcoppgllfipbeaa
