/- Contracts (A1). -/
import Derived.Test.YtnhpmgcllclhfaaG1
namespace Go.Proofs.Ytnhpmgcllclhfaa
open Go.RowKit
attribute [local go_sem] lt_gap le_gap eq_gap gap_eq lt_ones2 lt_ones3 lt_ones4 lt_ones5 lt_ones6 lt_ones7 lt_ones8 lt_gap_1 lt_gap_2 lt_gap_3 lt_gap_4 lt_gap_5 lt_gap_6 size_grow cell?_grow frozen?_grow setCell_grow drew_grow drewN_grow
attribute [local go_sem] boxOf_alloc_at boxOf_alloc_past boxOf_grow boxOf_drew boxOf_drewN isBox_alloc_at isBox_alloc_past isBox_grow isBox_drew isBox_drewN putAt_all putAt setCells_alloc_at setCells_alloc_past setCells_grow setCells_drew
set_option linter.unusedVariables false
set_option linter.unusedSimpArgs false

theorem l1In_c (n lo hi : Int) (w : World) : Calls Try.prog 78 #[.int .i64 n, .int .i64 lo, .int .i64 hi] w fun e w' => e = .returned (.bool (inB n lo hi)) ∧ w = w' := by
  go_enter Try.func78, Try.ntmps78
  go_wp2
  all_goals (refine bodyPost_ret (v := .bool (inB n lo hi)) (by first | (simp [results, Try.results78, go_sem, *, inB]; done) | (simp [results, Try.results78, go_sem, *, inB]; omega) | (simp [results, Try.results78, go_sem, *, inB]; grind)) rfl ⟨by first | rfl | (simp [*]; done), ?_⟩)
  all_goals rfl
theorem within_c (n lo hi : Int) (w : World) : Calls Try.prog 84 #[.int .i64 n, .int .i64 lo, .int .i64 hi] w fun e w' => e = .returned (.bool (inB n lo hi)) ∧ w = w' := by
  go_enter Try.func84, Try.ntmps84
  go_wp2
  all_goals (refine bodyPost_ret (v := .bool (inB n lo hi)) (by first | (simp [results, Try.results84, go_sem, *, inB]; done) | (simp [results, Try.results84, go_sem, *, inB]; omega) | (simp [results, Try.results84, go_sem, *, inB]; grind)) rfl ⟨by first | rfl | (simp [*]; done), ?_⟩)
  all_goals rfl
theorem l1Max_c (a b : Int) (w : World) : Calls Try.prog 108 #[.int .i64 a, .int .i64 b] w fun e w' => e = .returned (.int .i64 (max a b)) ∧ w = w' := by
  go_enter Try.func108, Try.ntmps108
  go_wp2
  all_goals (refine bodyPost_ret (v := .int .i64 (max a b)) (by first | (simp [results, Try.results108, go_sem, *]; done) | (simp [results, Try.results108, go_sem, *]; omega) | (simp [results, Try.results108, go_sem, *]; grind)) rfl ⟨by first | rfl | (simp [*]; done), ?_⟩)
  all_goals rfl
theorem sWordOk32_c (n : Int) (w : World) : Calls Try.prog 100 #[.int .i64 n, .int .i64 32] w fun e w' => e = .returned (.bool (wordOk n 32)) ∧ w = w' := by
  go_enter Try.func100, Try.ntmps100
  go_wp2_with (first | (go_at_call 78; with_reducible refine (l1In_c _ _ _ _).mono ?_; rintro e w1 ⟨rfl, rfl⟩))
  all_goals (refine bodyPost_ret (v := .bool (wordOk n 32)) (by first | (simp [results, Try.results100, go_sem, *, wordOk, inB]; done) | (simp [results, Try.results100, go_sem, *, wordOk, inB]; omega) | (simp [results, Try.results100, go_sem, *, wordOk, inB]; grind)) rfl ⟨by first | rfl | (simp [*]; done), ?_⟩)
  all_goals rfl
theorem sWordOk16_c (n : Int) (w : World) : Calls Try.prog 100 #[.int .i64 n, .int .i64 16] w fun e w' => e = .returned (.bool (wordOk n 16)) ∧ w = w' := by
  go_enter Try.func100, Try.ntmps100
  go_wp2_with (first | (go_at_call 78; with_reducible refine (l1In_c _ _ _ _).mono ?_; rintro e w1 ⟨rfl, rfl⟩))
  all_goals (refine bodyPost_ret (v := .bool (wordOk n 16)) (by first | (simp [results, Try.results100, go_sem, *, wordOk, inB]; done) | (simp [results, Try.results100, go_sem, *, wordOk, inB]; omega) | (simp [results, Try.results100, go_sem, *, wordOk, inB]; grind)) rfl ⟨by first | rfl | (simp [*]; done), ?_⟩)
  all_goals rfl
theorem sWordOk6_c (n : Int) (w : World) : Calls Try.prog 100 #[.int .i64 n, .int .i64 6] w fun e w' => e = .returned (.bool (wordOk n 6)) ∧ w = w' := by
  go_enter Try.func100, Try.ntmps100
  go_wp2_with (first | (go_at_call 78; with_reducible refine (l1In_c _ _ _ _).mono ?_; rintro e w1 ⟨rfl, rfl⟩))
  all_goals (refine bodyPost_ret (v := .bool (wordOk n 6)) (by first | (simp [results, Try.results100, go_sem, *, wordOk, inB]; done) | (simp [results, Try.results100, go_sem, *, wordOk, inB]; omega) | (simp [results, Try.results100, go_sem, *, wordOk, inB]; grind)) rfl ⟨by first | rfl | (simp [*]; done), ?_⟩)
  all_goals rfl
theorem iWordOk32_c (n : Int) (w : World) : Calls Try.prog 102 #[.int .i64 n, .int .i64 32] w fun e w' => e = .returned (.bool (wordOk n 32)) ∧ w = w' := by
  go_enter Try.func102, Try.ntmps102
  go_wp2_with (first | (go_at_call 84; with_reducible refine (within_c _ _ _ _).mono ?_; rintro e w1 ⟨rfl, rfl⟩))
  all_goals (refine bodyPost_ret (v := .bool (wordOk n 32)) (by first | (simp [results, Try.results102, go_sem, *, wordOk, inB]; done) | (simp [results, Try.results102, go_sem, *, wordOk, inB]; omega) | (simp [results, Try.results102, go_sem, *, wordOk, inB]; grind)) rfl ⟨by first | rfl | (simp [*]; done), ?_⟩)
  all_goals rfl
theorem iWordOk16_c (n : Int) (w : World) : Calls Try.prog 102 #[.int .i64 n, .int .i64 16] w fun e w' => e = .returned (.bool (wordOk n 16)) ∧ w = w' := by
  go_enter Try.func102, Try.ntmps102
  go_wp2_with (first | (go_at_call 84; with_reducible refine (within_c _ _ _ _).mono ?_; rintro e w1 ⟨rfl, rfl⟩))
  all_goals (refine bodyPost_ret (v := .bool (wordOk n 16)) (by first | (simp [results, Try.results102, go_sem, *, wordOk, inB]; done) | (simp [results, Try.results102, go_sem, *, wordOk, inB]; omega) | (simp [results, Try.results102, go_sem, *, wordOk, inB]; grind)) rfl ⟨by first | rfl | (simp [*]; done), ?_⟩)
  all_goals rfl
theorem iWordOk6_c (n : Int) (w : World) : Calls Try.prog 102 #[.int .i64 n, .int .i64 6] w fun e w' => e = .returned (.bool (wordOk n 6)) ∧ w = w' := by
  go_enter Try.func102, Try.ntmps102
  go_wp2_with (first | (go_at_call 84; with_reducible refine (within_c _ _ _ _).mono ?_; rintro e w1 ⟨rfl, rfl⟩))
  all_goals (refine bodyPost_ret (v := .bool (wordOk n 6)) (by first | (simp [results, Try.results102, go_sem, *, wordOk, inB]; done) | (simp [results, Try.results102, go_sem, *, wordOk, inB]; omega) | (simp [results, Try.results102, go_sem, *, wordOk, inB]; grind)) rfl ⟨by first | rfl | (simp [*]; done), ?_⟩)
  all_goals rfl
end Go.Proofs.Ytnhpmgcllclhfaa
