/- Contracts (A1). -/
import Derived.Test.YtfidgfddgmppdaaG1
namespace Go.Proofs.Ytfidgfddgmppdaa
open Go.RowKit
attribute [local go_sem] cL cK cM cN bC bI bD bN bF bK bJ bG bE bH bP bL bO a6 cell?_grow frozen?_grow aJ bd bq
attribute [local go_sem] aT af bp bm b7 aS ag bo bn b9 bc cQ al aq aN aO
set_option linter.unusedVariables false
set_option linter.unusedSimpArgs false
theorem ca (n lo hi : Int) (w : World) : Calls Try.prog 46 #[.int .i64 n, .int .i64 lo, .int .i64 hi] w fun e w' => e = .returned (.bool (aX n lo hi)) ∧ w = w' := by
  go_enter Try.func46, Try.ntmps46
  go_wp2
  all_goals (refine bodyPost_ret (v := .bool (aX n lo hi)) (by first | (simp [results, Try.results46, go_sem, *, aX]; done) | (simp [results, Try.results46, go_sem, *, aX]; omega) | (simp [results, Try.results46, go_sem, *, aX]; grind)) rfl ⟨by first | rfl | (simp [*]; done), ?_⟩)
  all_goals rfl
theorem bk (n lo hi : Int) (w : World) : Calls Try.prog 52 #[.int .i64 n, .int .i64 lo, .int .i64 hi] w fun e w' => e = .returned (.bool (aX n lo hi)) ∧ w = w' := by
  go_enter Try.func52, Try.ntmps52
  go_wp2
  all_goals (refine bodyPost_ret (v := .bool (aX n lo hi)) (by first | (simp [results, Try.results52, go_sem, *, aX]; done) | (simp [results, Try.results52, go_sem, *, aX]; omega) | (simp [results, Try.results52, go_sem, *, aX]; grind)) rfl ⟨by first | rfl | (simp [*]; done), ?_⟩)
  all_goals rfl
theorem l1Max_c (a b : Int) (w : World) : Calls Try.prog 35 #[.int .i64 a, .int .i64 b] w fun e w' => e = .returned (.int .i64 (max a b)) ∧ w = w' := by
  go_enter Try.func35, Try.ntmps35
  go_wp2
  all_goals (refine bodyPost_ret (v := .int .i64 (max a b)) (by first | (simp [results, Try.results35, go_sem, *]; done) | (simp [results, Try.results35, go_sem, *]; omega) | (simp [results, Try.results35, go_sem, *]; grind)) rfl ⟨by first | rfl | (simp [*]; done), ?_⟩)
  all_goals rfl
theorem cm (n : Int) (w : World) : Calls Try.prog 42 #[.int .i64 n, .int .i64 32] w fun e w' => e = .returned (.bool (ar n 32)) ∧ w = w' := by
  go_enter Try.func42, Try.ntmps42
  go_wp2_with (first | (go_at_call 46; with_reducible refine (ca _ _ _ _).mono ?_; rintro e w1 ⟨rfl, rfl⟩))
  all_goals (refine bodyPost_ret (v := .bool (ar n 32)) (by first | (simp [results, Try.results42, go_sem, *, ar, aX]; done) | (simp [results, Try.results42, go_sem, *, ar, aX]; omega) | (simp [results, Try.results42, go_sem, *, ar, aX]; grind)) rfl ⟨by first | rfl | (simp [*]; done), ?_⟩)
  all_goals rfl
theorem dw (n : Int) (w : World) : Calls Try.prog 42 #[.int .i64 n, .int .i64 16] w fun e w' => e = .returned (.bool (ar n 16)) ∧ w = w' := by
  go_enter Try.func42, Try.ntmps42
  go_wp2_with (first | (go_at_call 46; with_reducible refine (ca _ _ _ _).mono ?_; rintro e w1 ⟨rfl, rfl⟩))
  all_goals (refine bodyPost_ret (v := .bool (ar n 16)) (by first | (simp [results, Try.results42, go_sem, *, ar, aX]; done) | (simp [results, Try.results42, go_sem, *, ar, aX]; omega) | (simp [results, Try.results42, go_sem, *, ar, aX]; grind)) rfl ⟨by first | rfl | (simp [*]; done), ?_⟩)
  all_goals rfl
theorem sWordOk6_c (n : Int) (w : World) : Calls Try.prog 42 #[.int .i64 n, .int .i64 6] w fun e w' => e = .returned (.bool (ar n 6)) ∧ w = w' := by
  go_enter Try.func42, Try.ntmps42
  go_wp2_with (first | (go_at_call 46; with_reducible refine (ca _ _ _ _).mono ?_; rintro e w1 ⟨rfl, rfl⟩))
  all_goals (refine bodyPost_ret (v := .bool (ar n 6)) (by first | (simp [results, Try.results42, go_sem, *, ar, aX]; done) | (simp [results, Try.results42, go_sem, *, ar, aX]; omega) | (simp [results, Try.results42, go_sem, *, ar, aX]; grind)) rfl ⟨by first | rfl | (simp [*]; done), ?_⟩)
  all_goals rfl
theorem cX (n : Int) (w : World) : Calls Try.prog 48 #[.int .i64 n, .int .i64 32] w fun e w' => e = .returned (.bool (ar n 32)) ∧ w = w' := by
  go_enter Try.func48, Try.ntmps48
  go_wp2_with (first | (go_at_call 52; with_reducible refine (bk _ _ _ _).mono ?_; rintro e w1 ⟨rfl, rfl⟩))
  all_goals (refine bodyPost_ret (v := .bool (ar n 32)) (by first | (simp [results, Try.results48, go_sem, *, ar, aX]; done) | (simp [results, Try.results48, go_sem, *, ar, aX]; omega) | (simp [results, Try.results48, go_sem, *, ar, aX]; grind)) rfl ⟨by first | rfl | (simp [*]; done), ?_⟩)
  all_goals rfl
theorem du (n : Int) (w : World) : Calls Try.prog 48 #[.int .i64 n, .int .i64 16] w fun e w' => e = .returned (.bool (ar n 16)) ∧ w = w' := by
  go_enter Try.func48, Try.ntmps48
  go_wp2_with (first | (go_at_call 52; with_reducible refine (bk _ _ _ _).mono ?_; rintro e w1 ⟨rfl, rfl⟩))
  all_goals (refine bodyPost_ret (v := .bool (ar n 16)) (by first | (simp [results, Try.results48, go_sem, *, ar, aX]; done) | (simp [results, Try.results48, go_sem, *, ar, aX]; omega) | (simp [results, Try.results48, go_sem, *, ar, aX]; grind)) rfl ⟨by first | rfl | (simp [*]; done), ?_⟩)
  all_goals rfl
theorem iWordOk6_c (n : Int) (w : World) : Calls Try.prog 48 #[.int .i64 n, .int .i64 6] w fun e w' => e = .returned (.bool (ar n 6)) ∧ w = w' := by
  go_enter Try.func48, Try.ntmps48
  go_wp2_with (first | (go_at_call 52; with_reducible refine (bk _ _ _ _).mono ?_; rintro e w1 ⟨rfl, rfl⟩))
  all_goals (refine bodyPost_ret (v := .bool (ar n 6)) (by first | (simp [results, Try.results48, go_sem, *, ar, aX]; done) | (simp [results, Try.results48, go_sem, *, ar, aX]; omega) | (simp [results, Try.results48, go_sem, *, ar, aX]; grind)) rfl ⟨by first | rfl | (simp [*]; done), ?_⟩)
  all_goals rfl
end Go.Proofs.Ytfidgfddgmppdaa
