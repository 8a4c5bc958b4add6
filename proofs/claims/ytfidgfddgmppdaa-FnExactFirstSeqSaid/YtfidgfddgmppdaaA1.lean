/- Contracts (A1). -/
import Derived.Test.YtfidgfddgmppdaaG1
namespace Go.Proofs.Ytfidgfddgmppdaa
open Go.RowKit
attribute [local go_sem] cm cl ck cj bj bY bi bl bf bg bc ba bh bd bn bo bm a8 cell?_grow frozen?_grow aU bw b0
attribute [local go_sem] ae al b5 aC aK af ak aA aD aJ bv ct ap ar aa ab
set_option linter.unusedVariables false
set_option linter.unusedSimpArgs false
theorem l1In_c (n lo hi : Int) (w : World) : Calls Try.prog 46 #[.int .i64 n, .int .i64 lo, .int .i64 hi] w fun e w' => e = .returned (.bool (bx n lo hi)) ∧ w = w' := by
  go_enter Try.func46, Try.ntmps46
  go_wp2
  all_goals (refine bodyPost_ret (v := .bool (bx n lo hi)) (by first | (simp [results, Try.results46, go_sem, *, bx]; done) | (simp [results, Try.results46, go_sem, *, bx]; omega) | (simp [results, Try.results46, go_sem, *, bx]; grind)) rfl ⟨by first | rfl | (simp [*]; done), ?_⟩)
  all_goals rfl
theorem cJ (n lo hi : Int) (w : World) : Calls Try.prog 52 #[.int .i64 n, .int .i64 lo, .int .i64 hi] w fun e w' => e = .returned (.bool (bx n lo hi)) ∧ w = w' := by
  go_enter Try.func52, Try.ntmps52
  go_wp2
  all_goals (refine bodyPost_ret (v := .bool (bx n lo hi)) (by first | (simp [results, Try.results52, go_sem, *, bx]; done) | (simp [results, Try.results52, go_sem, *, bx]; omega) | (simp [results, Try.results52, go_sem, *, bx]; grind)) rfl ⟨by first | rfl | (simp [*]; done), ?_⟩)
  all_goals rfl
theorem l1Max_c (a b : Int) (w : World) : Calls Try.prog 35 #[.int .i64 a, .int .i64 b] w fun e w' => e = .returned (.int .i64 (max a b)) ∧ w = w' := by
  go_enter Try.func35, Try.ntmps35
  go_wp2
  all_goals (refine bodyPost_ret (v := .int .i64 (max a b)) (by first | (simp [results, Try.results35, go_sem, *]; done) | (simp [results, Try.results35, go_sem, *]; omega) | (simp [results, Try.results35, go_sem, *]; grind)) rfl ⟨by first | rfl | (simp [*]; done), ?_⟩)
  all_goals rfl
theorem sWordOk32_c (n : Int) (w : World) : Calls Try.prog 42 #[.int .i64 n, .int .i64 32] w fun e w' => e = .returned (.bool (aw n 32)) ∧ w = w' := by
  go_enter Try.func42, Try.ntmps42
  go_wp2_with (first | (go_at_call 46; with_reducible refine (l1In_c _ _ _ _).mono ?_; rintro e w1 ⟨rfl, rfl⟩))
  all_goals (refine bodyPost_ret (v := .bool (aw n 32)) (by first | (simp [results, Try.results42, go_sem, *, aw, bx]; done) | (simp [results, Try.results42, go_sem, *, aw, bx]; omega) | (simp [results, Try.results42, go_sem, *, aw, bx]; grind)) rfl ⟨by first | rfl | (simp [*]; done), ?_⟩)
  all_goals rfl
theorem sWordOk16_c (n : Int) (w : World) : Calls Try.prog 42 #[.int .i64 n, .int .i64 16] w fun e w' => e = .returned (.bool (aw n 16)) ∧ w = w' := by
  go_enter Try.func42, Try.ntmps42
  go_wp2_with (first | (go_at_call 46; with_reducible refine (l1In_c _ _ _ _).mono ?_; rintro e w1 ⟨rfl, rfl⟩))
  all_goals (refine bodyPost_ret (v := .bool (aw n 16)) (by first | (simp [results, Try.results42, go_sem, *, aw, bx]; done) | (simp [results, Try.results42, go_sem, *, aw, bx]; omega) | (simp [results, Try.results42, go_sem, *, aw, bx]; grind)) rfl ⟨by first | rfl | (simp [*]; done), ?_⟩)
  all_goals rfl
theorem sWordOk6_c (n : Int) (w : World) : Calls Try.prog 42 #[.int .i64 n, .int .i64 6] w fun e w' => e = .returned (.bool (aw n 6)) ∧ w = w' := by
  go_enter Try.func42, Try.ntmps42
  go_wp2_with (first | (go_at_call 46; with_reducible refine (l1In_c _ _ _ _).mono ?_; rintro e w1 ⟨rfl, rfl⟩))
  all_goals (refine bodyPost_ret (v := .bool (aw n 6)) (by first | (simp [results, Try.results42, go_sem, *, aw, bx]; done) | (simp [results, Try.results42, go_sem, *, aw, bx]; omega) | (simp [results, Try.results42, go_sem, *, aw, bx]; grind)) rfl ⟨by first | rfl | (simp [*]; done), ?_⟩)
  all_goals rfl
theorem iWordOk32_c (n : Int) (w : World) : Calls Try.prog 48 #[.int .i64 n, .int .i64 32] w fun e w' => e = .returned (.bool (aw n 32)) ∧ w = w' := by
  go_enter Try.func48, Try.ntmps48
  go_wp2_with (first | (go_at_call 52; with_reducible refine (cJ _ _ _ _).mono ?_; rintro e w1 ⟨rfl, rfl⟩))
  all_goals (refine bodyPost_ret (v := .bool (aw n 32)) (by first | (simp [results, Try.results48, go_sem, *, aw, bx]; done) | (simp [results, Try.results48, go_sem, *, aw, bx]; omega) | (simp [results, Try.results48, go_sem, *, aw, bx]; grind)) rfl ⟨by first | rfl | (simp [*]; done), ?_⟩)
  all_goals rfl
theorem iWordOk16_c (n : Int) (w : World) : Calls Try.prog 48 #[.int .i64 n, .int .i64 16] w fun e w' => e = .returned (.bool (aw n 16)) ∧ w = w' := by
  go_enter Try.func48, Try.ntmps48
  go_wp2_with (first | (go_at_call 52; with_reducible refine (cJ _ _ _ _).mono ?_; rintro e w1 ⟨rfl, rfl⟩))
  all_goals (refine bodyPost_ret (v := .bool (aw n 16)) (by first | (simp [results, Try.results48, go_sem, *, aw, bx]; done) | (simp [results, Try.results48, go_sem, *, aw, bx]; omega) | (simp [results, Try.results48, go_sem, *, aw, bx]; grind)) rfl ⟨by first | rfl | (simp [*]; done), ?_⟩)
  all_goals rfl
theorem iWordOk6_c (n : Int) (w : World) : Calls Try.prog 48 #[.int .i64 n, .int .i64 6] w fun e w' => e = .returned (.bool (aw n 6)) ∧ w = w' := by
  go_enter Try.func48, Try.ntmps48
  go_wp2_with (first | (go_at_call 52; with_reducible refine (cJ _ _ _ _).mono ?_; rintro e w1 ⟨rfl, rfl⟩))
  all_goals (refine bodyPost_ret (v := .bool (aw n 6)) (by first | (simp [results, Try.results48, go_sem, *, aw, bx]; done) | (simp [results, Try.results48, go_sem, *, aw, bx]; omega) | (simp [results, Try.results48, go_sem, *, aw, bx]; grind)) rfl ⟨by first | rfl | (simp [*]; done), ?_⟩)
  all_goals rfl
end Go.Proofs.Ytfidgfddgmppdaa
