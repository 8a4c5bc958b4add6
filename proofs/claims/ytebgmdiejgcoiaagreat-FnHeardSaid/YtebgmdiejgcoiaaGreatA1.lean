/- Contracts (A1). -/
import Derived.Test.YtebgmdiejgcoiaaGreatG1
namespace Go.Proofs.YtebgmdiejgcoiaaGreat
open Go.RowKit
attribute [local go_sem] lt_gap le_gap eq_gap gap_eq lt_ones2 lt_ones3 lt_ones4 lt_ones5 lt_ones6 lt_ones7 lt_ones8 lt_gap_1 lt_gap_2 lt_gap_3 lt_gap_4 lt_gap_5 lt_gap_6 size_grow cell?_grow frozen?_grow setCell_grow drew_grow drewN_grow
attribute [local go_sem] boxOf_alloc_at boxOf_alloc_past boxOf_grow boxOf_drew boxOf_drewN isBox_alloc_at isBox_alloc_past isBox_grow isBox_drew isBox_drewN putAt_all putAt setCells_alloc_at setCells_alloc_past setCells_grow setCells_drew
set_option linter.unusedVariables false
set_option linter.unusedSimpArgs false

theorem l1In_c (n lo hi : Int) (w : World) : Calls Tryz.prog 67 #[.int .i64 n, .int .i64 lo, .int .i64 hi] w fun e w' => e = .returned (.bool (inB n lo hi)) ∧ w = w' := by
  go_enter Tryz.func67, Tryz.ntmps67
  go_wp2
  all_goals (refine bodyPost_ret (v := .bool (inB n lo hi)) (by first | (simp [results, Tryz.results67, go_sem, *, inB]; done) | (simp [results, Tryz.results67, go_sem, *, inB]; omega) | (simp [results, Tryz.results67, go_sem, *, inB]; grind)) rfl ⟨by first | rfl | (simp [*]; done), ?_⟩)
  all_goals rfl
theorem within_c (n lo hi : Int) (w : World) : Calls Tryz.prog 62 #[.int .i64 n, .int .i64 lo, .int .i64 hi] w fun e w' => e = .returned (.bool (inB n lo hi)) ∧ w = w' := by
  go_enter Tryz.func62, Tryz.ntmps62
  go_wp2
  all_goals (refine bodyPost_ret (v := .bool (inB n lo hi)) (by first | (simp [results, Tryz.results62, go_sem, *, inB]; done) | (simp [results, Tryz.results62, go_sem, *, inB]; omega) | (simp [results, Tryz.results62, go_sem, *, inB]; grind)) rfl ⟨by first | rfl | (simp [*]; done), ?_⟩)
  all_goals rfl
theorem l1Min_c (a b : Int) (w : World) : Calls Tryz.prog 75 #[.int .i64 a, .int .i64 b] w fun e w' => e = .returned (.int .i64 (min a b)) ∧ w = w' := by
  go_enter Tryz.func75, Tryz.ntmps75
  go_wp2
  all_goals (refine bodyPost_ret (v := .int .i64 (min a b)) (by first | (simp [results, Tryz.results75, go_sem, *]; done) | (simp [results, Tryz.results75, go_sem, *]; omega) | (simp [results, Tryz.results75, go_sem, *]; grind)) rfl ⟨by first | rfl | (simp [*]; done), ?_⟩)
  all_goals rfl
theorem l1Max_c (a b : Int) (w : World) : Calls Tryz.prog 76 #[.int .i64 a, .int .i64 b] w fun e w' => e = .returned (.int .i64 (max a b)) ∧ w = w' := by
  go_enter Tryz.func76, Tryz.ntmps76
  go_wp2
  all_goals (refine bodyPost_ret (v := .int .i64 (max a b)) (by first | (simp [results, Tryz.results76, go_sem, *]; done) | (simp [results, Tryz.results76, go_sem, *]; omega) | (simp [results, Tryz.results76, go_sem, *]; grind)) rfl ⟨by first | rfl | (simp [*]; done), ?_⟩)
  all_goals rfl
theorem sWordOk32_c (n : Int) (w : World) : Calls Tryz.prog 114 #[.int .i64 n, .int .i64 32] w fun e w' => e = .returned (.bool (wordOk n 32)) ∧ w = w' := by
  go_enter Tryz.func114, Tryz.ntmps114
  go_wp2_with (first | (go_at_call 67; with_reducible refine (l1In_c _ _ _ _).mono ?_; rintro e w1 ⟨rfl, rfl⟩))
  all_goals (refine bodyPost_ret (v := .bool (wordOk n 32)) (by first | (simp [results, Tryz.results114, go_sem, *, wordOk, inB]; done) | (simp [results, Tryz.results114, go_sem, *, wordOk, inB]; omega) | (simp [results, Tryz.results114, go_sem, *, wordOk, inB]; grind)) rfl ⟨by first | rfl | (simp [*]; done), ?_⟩)
  all_goals rfl
theorem sWordOk16_c (n : Int) (w : World) : Calls Tryz.prog 114 #[.int .i64 n, .int .i64 16] w fun e w' => e = .returned (.bool (wordOk n 16)) ∧ w = w' := by
  go_enter Tryz.func114, Tryz.ntmps114
  go_wp2_with (first | (go_at_call 67; with_reducible refine (l1In_c _ _ _ _).mono ?_; rintro e w1 ⟨rfl, rfl⟩))
  all_goals (refine bodyPost_ret (v := .bool (wordOk n 16)) (by first | (simp [results, Tryz.results114, go_sem, *, wordOk, inB]; done) | (simp [results, Tryz.results114, go_sem, *, wordOk, inB]; omega) | (simp [results, Tryz.results114, go_sem, *, wordOk, inB]; grind)) rfl ⟨by first | rfl | (simp [*]; done), ?_⟩)
  all_goals rfl
theorem sWordOk6_c (n : Int) (w : World) : Calls Tryz.prog 114 #[.int .i64 n, .int .i64 6] w fun e w' => e = .returned (.bool (wordOk n 6)) ∧ w = w' := by
  go_enter Tryz.func114, Tryz.ntmps114
  go_wp2_with (first | (go_at_call 67; with_reducible refine (l1In_c _ _ _ _).mono ?_; rintro e w1 ⟨rfl, rfl⟩))
  all_goals (refine bodyPost_ret (v := .bool (wordOk n 6)) (by first | (simp [results, Tryz.results114, go_sem, *, wordOk, inB]; done) | (simp [results, Tryz.results114, go_sem, *, wordOk, inB]; omega) | (simp [results, Tryz.results114, go_sem, *, wordOk, inB]; grind)) rfl ⟨by first | rfl | (simp [*]; done), ?_⟩)
  all_goals rfl
theorem iWordOk32_c (n : Int) (w : World) : Calls Tryz.prog 113 #[.int .i64 n, .int .i64 32] w fun e w' => e = .returned (.bool (wordOk n 32)) ∧ w = w' := by
  go_enter Tryz.func113, Tryz.ntmps113
  go_wp2_with (first | (go_at_call 62; with_reducible refine (within_c _ _ _ _).mono ?_; rintro e w1 ⟨rfl, rfl⟩))
  all_goals (refine bodyPost_ret (v := .bool (wordOk n 32)) (by first | (simp [results, Tryz.results113, go_sem, *, wordOk, inB]; done) | (simp [results, Tryz.results113, go_sem, *, wordOk, inB]; omega) | (simp [results, Tryz.results113, go_sem, *, wordOk, inB]; grind)) rfl ⟨by first | rfl | (simp [*]; done), ?_⟩)
  all_goals rfl
theorem iWordOk16_c (n : Int) (w : World) : Calls Tryz.prog 113 #[.int .i64 n, .int .i64 16] w fun e w' => e = .returned (.bool (wordOk n 16)) ∧ w = w' := by
  go_enter Tryz.func113, Tryz.ntmps113
  go_wp2_with (first | (go_at_call 62; with_reducible refine (within_c _ _ _ _).mono ?_; rintro e w1 ⟨rfl, rfl⟩))
  all_goals (refine bodyPost_ret (v := .bool (wordOk n 16)) (by first | (simp [results, Tryz.results113, go_sem, *, wordOk, inB]; done) | (simp [results, Tryz.results113, go_sem, *, wordOk, inB]; omega) | (simp [results, Tryz.results113, go_sem, *, wordOk, inB]; grind)) rfl ⟨by first | rfl | (simp [*]; done), ?_⟩)
  all_goals rfl
theorem iWordOk6_c (n : Int) (w : World) : Calls Tryz.prog 113 #[.int .i64 n, .int .i64 6] w fun e w' => e = .returned (.bool (wordOk n 6)) ∧ w = w' := by
  go_enter Tryz.func113, Tryz.ntmps113
  go_wp2_with (first | (go_at_call 62; with_reducible refine (within_c _ _ _ _).mono ?_; rintro e w1 ⟨rfl, rfl⟩))
  all_goals (refine bodyPost_ret (v := .bool (wordOk n 6)) (by first | (simp [results, Tryz.results113, go_sem, *, wordOk, inB]; done) | (simp [results, Tryz.results113, go_sem, *, wordOk, inB]; omega) | (simp [results, Tryz.results113, go_sem, *, wordOk, inB]; grind)) rfl ⟨by first | rfl | (simp [*]; done), ?_⟩)
  all_goals rfl
theorem sRest_c (n : Int) (w : World) : Calls Tryz.prog 122 #[.int .i64 n] w fun e w' => e = .returned (.int .i64 (n % 4294967296)) ∧ w = w' := by
  go_enter Tryz.func122, Tryz.ntmps122
  go_wp2
  all_goals (refine bodyPost_ret (v := .int .i64 (n % 4294967296)) (by first | (simp [results, Tryz.results122, go_sem, *]; done) | (simp [results, Tryz.results122, go_sem, *]; omega) | (simp [results, Tryz.results122, go_sem, *]; grind) | (simp only [results, Tryz.results122]; simp; first | exact rest_lo _ ‹_› | exact rest_hi _ ‹_›)) rfl ⟨by first | rfl | (simp [*]; done), ?_⟩)
  all_goals rfl
theorem sSeqAdd_c (a n : Int) (w : World) : Calls Tryz.prog 120 #[.int .i64 a, .int .i64 n] w fun e w' => e = .returned (.int .i64 (sA a n)) ∧ w = w' := by
  go_enter Tryz.func120, Tryz.ntmps120
  go_wp2_with (first | (go_at_call 122; with_reducible refine (sRest_c _ _).mono ?_; rintro e w1 ⟨rfl, rfl⟩))
  all_goals (refine bodyPost_ret (v := .int .i64 (sA a n)) (by first | (simp [results, Tryz.results120, go_sem, *, sA]; done) | (simp [results, Tryz.results120, go_sem, *, sA]; omega) | (simp [results, Tryz.results120, go_sem, *, sA]; grind)) rfl ⟨by first | rfl | (simp [*]; done), ?_⟩)
  all_goals rfl
theorem iSeqAdd_c (a n : Int) (w : World) : Calls Tryz.prog 115 #[.int .i64 a, .int .i64 n] w fun e w' => e = .returned (.int .i64 (sA a n)) ∧ w = w' := by
  go_enter Tryz.func115, Tryz.ntmps115
  go_wp2
  all_goals (refine bodyPost_ret (v := .int .i64 (sA a n)) (by first | (simp [results, Tryz.results115, go_sem, *, sA, and_mask, wrap_mod]; done) | (simp [results, Tryz.results115, go_sem, *, sA, and_mask, wrap_mod]; omega) | (simp [results, Tryz.results115, go_sem, *, sA, and_mask, wrap_mod]; grind)) rfl ⟨by first | rfl | (simp [*]; done), ?_⟩)
  all_goals rfl
end Go.Proofs.YtebgmdiejgcoiaaGreat
