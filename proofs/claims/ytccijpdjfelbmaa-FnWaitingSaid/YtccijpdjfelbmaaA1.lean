/- Contracts (A1). -/
import Derived.Test.YtccijpdjfelbmaaG1
namespace Go.Proofs.Ytccijpdjfelbmaa
open Go.RowKit
attribute [local go_sem] fZ fM fN fL ew er eu ez es ev ey e0 dA dC e5 dB e8 aJ cell?_grow frozen?_grow cg dX dq
attribute [local go_sem] c8 bK dr dv cC c9 bM dy dx cA dc fx bh bt cx cu
set_option linter.unusedVariables false
set_option linter.unusedSimpArgs false
theorem dP (n lo hi : Int) (w : World) : Calls Try.prog 83 #[.int .i64 n, .int .i64 lo, .int .i64 hi] w fun e w' => e = .returned (.bool (cR n lo hi)) ∧ w = w' := by
  go_enter Try.func83, Try.ntmps83
  go_wp2
  all_goals (refine bodyPost_ret (v := .bool (cR n lo hi)) (by first | (simp [results, Try.results83, go_sem, *, cR]; done) | (simp [results, Try.results83, go_sem, *, cR]; omega) | (simp [results, Try.results83, go_sem, *, cR]; grind)) rfl ⟨by first | rfl | (simp [*]; done), ?_⟩)
  all_goals rfl
theorem fG (a b : Int) (w : World) : Calls Try.prog 88 #[.int .i64 a, .int .i64 b] w fun e w' => e = .returned (.int .i64 (min a b)) ∧ w = w' := by
  go_enter Try.func88, Try.ntmps88
  go_wp2
  all_goals (refine bodyPost_ret (v := .int .i64 (min a b)) (by first | (simp [results, Try.results88, go_sem, *]; done) | (simp [results, Try.results88, go_sem, *]; omega) | (simp [results, Try.results88, go_sem, *]; grind)) rfl ⟨by first | rfl | (simp [*]; done), ?_⟩)
  all_goals rfl
theorem dE (a b : Int) (w : World) : Calls Try.prog 55 #[.int .i64 a, .int .i64 b] w fun e w' => e = .returned (.int .i64 (max a b)) ∧ w = w' := by
  go_enter Try.func55, Try.ntmps55
  go_wp2
  all_goals (refine bodyPost_ret (v := .int .i64 (max a b)) (by first | (simp [results, Try.results55, go_sem, *]; done) | (simp [results, Try.results55, go_sem, *]; omega) | (simp [results, Try.results55, go_sem, *]; grind)) rfl ⟨by first | rfl | (simp [*]; done), ?_⟩)
  all_goals rfl
theorem eW (n : Int) (w : World) : Calls Try.prog 54 #[.int .i64 n, .int .i64 32] w fun e w' => e = .returned (.bool (aR n 32)) ∧ w = w' := by
  go_enter Try.func54, Try.ntmps54
  go_wp2_with (first | (go_at_call 83; with_reducible refine (dP _ _ _ _).mono ?_; rintro e w1 ⟨rfl, rfl⟩))
  all_goals (refine bodyPost_ret (v := .bool (aR n 32)) (by first | (simp [results, Try.results54, go_sem, *, aR, cR]; done) | (simp [results, Try.results54, go_sem, *, aR, cR]; omega) | (simp [results, Try.results54, go_sem, *, aR, cR]; grind)) rfl ⟨by first | rfl | (simp [*]; done), ?_⟩)
  all_goals rfl
theorem dQ (n : Int) (w : World) : Calls Try.prog 54 #[.int .i64 n, .int .i64 16] w fun e w' => e = .returned (.bool (aR n 16)) ∧ w = w' := by
  go_enter Try.func54, Try.ntmps54
  go_wp2_with (first | (go_at_call 83; with_reducible refine (dP _ _ _ _).mono ?_; rintro e w1 ⟨rfl, rfl⟩))
  all_goals (refine bodyPost_ret (v := .bool (aR n 16)) (by first | (simp [results, Try.results54, go_sem, *, aR, cR]; done) | (simp [results, Try.results54, go_sem, *, aR, cR]; omega) | (simp [results, Try.results54, go_sem, *, aR, cR]; grind)) rfl ⟨by first | rfl | (simp [*]; done), ?_⟩)
  all_goals rfl
theorem gm (n : Int) (w : World) : Calls Try.prog 54 #[.int .i64 n, .int .i64 6] w fun e w' => e = .returned (.bool (aR n 6)) ∧ w = w' := by
  go_enter Try.func54, Try.ntmps54
  go_wp2_with (first | (go_at_call 83; with_reducible refine (dP _ _ _ _).mono ?_; rintro e w1 ⟨rfl, rfl⟩))
  all_goals (refine bodyPost_ret (v := .bool (aR n 6)) (by first | (simp [results, Try.results54, go_sem, *, aR, cR]; done) | (simp [results, Try.results54, go_sem, *, aR, cR]; omega) | (simp [results, Try.results54, go_sem, *, aR, cR]; grind)) rfl ⟨by first | rfl | (simp [*]; done), ?_⟩)
  all_goals rfl
theorem fj (n : Int) (w : World) : Calls Try.prog 74 #[.int .i64 n] w fun e w' => e = .returned (.int .i64 (n % 4294967296)) ∧ w = w' := by
  go_enter Try.func74, Try.ntmps74
  go_wp2
  all_goals (refine bodyPost_ret (v := .int .i64 (n % 4294967296)) (by first | (simp [results, Try.results74, go_sem, *]; done) | (simp [results, Try.results74, go_sem, *]; omega) | (simp [results, Try.results74, go_sem, *]; grind) | (simp only [results, Try.results74]; simp; first | exact rest_lo _ ‹_› | exact rest_hi _ ‹_›)) rfl ⟨by first | rfl | (simp [*]; done), ?_⟩)
  all_goals rfl
theorem bk (a n : Int) (w : World) : Calls Try.prog 56 #[.int .i64 a, .int .i64 n] w fun e w' => e = .returned (.int .i64 (sA a n)) ∧ w = w' := by
  go_enter Try.func56, Try.ntmps56
  go_wp2_with (first | (go_at_call 74; with_reducible refine (fj _ _).mono ?_; rintro e w1 ⟨rfl, rfl⟩))
  all_goals (refine bodyPost_ret (v := .int .i64 (sA a n)) (by first | (simp [results, Try.results56, go_sem, *, sA]; done) | (simp [results, Try.results56, go_sem, *, sA]; omega) | (simp [results, Try.results56, go_sem, *, sA]; grind)) rfl ⟨by first | rfl | (simp [*]; done), ?_⟩)
  all_goals rfl
end Go.Proofs.Ytccijpdjfelbmaa
