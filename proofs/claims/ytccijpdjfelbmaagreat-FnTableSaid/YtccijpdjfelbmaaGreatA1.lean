/- Contracts (A1). -/
import Derived.Test.YtccijpdjfelbmaaGreatG1
namespace Go.Proofs.YtccijpdjfelbmaaGreat
open Go.RowKit
attribute [local go_sem] fB fD go gu ej er ei eb eZ en em ek es eg ef eh eY aL cell?_grow frozen?_grow cK dF db
attribute [local go_sem] cd cu dU dV dq cZ cv dW dd dm dB fX bL bg cV cW
set_option linter.unusedVariables false
set_option linter.unusedSimpArgs false
theorem e9 (n lo hi : Int) (w : World) : Calls Tryz.prog 63 #[.int .i64 n, .int .i64 lo, .int .i64 hi] w fun e w' => e = .returned (.bool (bA n lo hi)) ∧ w = w' := by
  go_enter Tryz.func63, Tryz.ntmps63
  go_wp2
  all_goals (refine bodyPost_ret (v := .bool (bA n lo hi)) (by first | (simp [results, Tryz.results63, go_sem, *, bA]; done) | (simp [results, Tryz.results63, go_sem, *, bA]; omega) | (simp [results, Tryz.results63, go_sem, *, bA]; grind)) rfl ⟨by first | rfl | (simp [*]; done), ?_⟩)
  all_goals rfl
theorem dc (n lo hi : Int) (w : World) : Calls Tryz.prog 58 #[.int .i64 n, .int .i64 lo, .int .i64 hi] w fun e w' => e = .returned (.bool (bA n lo hi)) ∧ w = w' := by
  go_enter Tryz.func58, Tryz.ntmps58
  go_wp2
  all_goals (refine bodyPost_ret (v := .bool (bA n lo hi)) (by first | (simp [results, Tryz.results58, go_sem, *, bA]; done) | (simp [results, Tryz.results58, go_sem, *, bA]; omega) | (simp [results, Tryz.results58, go_sem, *, bA]; grind)) rfl ⟨by first | rfl | (simp [*]; done), ?_⟩)
  all_goals rfl
theorem fT (a b : Int) (w : World) : Calls Tryz.prog 118 #[.int .i64 a, .int .i64 b] w fun e w' => e = .returned (.int .i64 (min a b)) ∧ w = w' := by
  go_enter Tryz.func118, Tryz.ntmps118
  go_wp2
  all_goals (refine bodyPost_ret (v := .int .i64 (min a b)) (by first | (simp [results, Tryz.results118, go_sem, *]; done) | (simp [results, Tryz.results118, go_sem, *]; omega) | (simp [results, Tryz.results118, go_sem, *]; grind)) rfl ⟨by first | rfl | (simp [*]; done), ?_⟩)
  all_goals rfl
theorem e7 (a b : Int) (w : World) : Calls Tryz.prog 95 #[.int .i64 a, .int .i64 b] w fun e w' => e = .returned (.int .i64 (max a b)) ∧ w = w' := by
  go_enter Tryz.func95, Tryz.ntmps95
  go_wp2
  all_goals (refine bodyPost_ret (v := .int .i64 (max a b)) (by first | (simp [results, Tryz.results95, go_sem, *]; done) | (simp [results, Tryz.results95, go_sem, *]; omega) | (simp [results, Tryz.results95, go_sem, *]; grind)) rfl ⟨by first | rfl | (simp [*]; done), ?_⟩)
  all_goals rfl
theorem eF (n : Int) (w : World) : Calls Tryz.prog 91 #[.int .i64 n, .int .i64 32] w fun e w' => e = .returned (.bool (aU n 32)) ∧ w = w' := by
  go_enter Tryz.func91, Tryz.ntmps91
  go_wp2_with (first | (go_at_call 63; with_reducible refine (e9 _ _ _ _).mono ?_; rintro e w1 ⟨rfl, rfl⟩))
  all_goals (refine bodyPost_ret (v := .bool (aU n 32)) (by first | (simp [results, Tryz.results91, go_sem, *, aU, bA]; done) | (simp [results, Tryz.results91, go_sem, *, aU, bA]; omega) | (simp [results, Tryz.results91, go_sem, *, aU, bA]; grind)) rfl ⟨by first | rfl | (simp [*]; done), ?_⟩)
  all_goals rfl
theorem e0 (n : Int) (w : World) : Calls Tryz.prog 91 #[.int .i64 n, .int .i64 16] w fun e w' => e = .returned (.bool (aU n 16)) ∧ w = w' := by
  go_enter Tryz.func91, Tryz.ntmps91
  go_wp2_with (first | (go_at_call 63; with_reducible refine (e9 _ _ _ _).mono ?_; rintro e w1 ⟨rfl, rfl⟩))
  all_goals (refine bodyPost_ret (v := .bool (aU n 16)) (by first | (simp [results, Tryz.results91, go_sem, *, aU, bA]; done) | (simp [results, Tryz.results91, go_sem, *, aU, bA]; omega) | (simp [results, Tryz.results91, go_sem, *, aU, bA]; grind)) rfl ⟨by first | rfl | (simp [*]; done), ?_⟩)
  all_goals rfl
theorem gK (n : Int) (w : World) : Calls Tryz.prog 91 #[.int .i64 n, .int .i64 6] w fun e w' => e = .returned (.bool (aU n 6)) ∧ w = w' := by
  go_enter Tryz.func91, Tryz.ntmps91
  go_wp2_with (first | (go_at_call 63; with_reducible refine (e9 _ _ _ _).mono ?_; rintro e w1 ⟨rfl, rfl⟩))
  all_goals (refine bodyPost_ret (v := .bool (aU n 6)) (by first | (simp [results, Tryz.results91, go_sem, *, aU, bA]; done) | (simp [results, Tryz.results91, go_sem, *, aU, bA]; omega) | (simp [results, Tryz.results91, go_sem, *, aU, bA]; grind)) rfl ⟨by first | rfl | (simp [*]; done), ?_⟩)
  all_goals rfl
theorem ge (n : Int) (w : World) : Calls Tryz.prog 89 #[.int .i64 n, .int .i64 32] w fun e w' => e = .returned (.bool (aU n 32)) ∧ w = w' := by
  go_enter Tryz.func89, Tryz.ntmps89
  go_wp2_with (first | (go_at_call 58; with_reducible refine (dc _ _ _ _).mono ?_; rintro e w1 ⟨rfl, rfl⟩))
  all_goals (refine bodyPost_ret (v := .bool (aU n 32)) (by first | (simp [results, Tryz.results89, go_sem, *, aU, bA]; done) | (simp [results, Tryz.results89, go_sem, *, aU, bA]; omega) | (simp [results, Tryz.results89, go_sem, *, aU, bA]; grind)) rfl ⟨by first | rfl | (simp [*]; done), ?_⟩)
  all_goals rfl
theorem iWordOk16_c (n : Int) (w : World) : Calls Tryz.prog 89 #[.int .i64 n, .int .i64 16] w fun e w' => e = .returned (.bool (aU n 16)) ∧ w = w' := by
  go_enter Tryz.func89, Tryz.ntmps89
  go_wp2_with (first | (go_at_call 58; with_reducible refine (dc _ _ _ _).mono ?_; rintro e w1 ⟨rfl, rfl⟩))
  all_goals (refine bodyPost_ret (v := .bool (aU n 16)) (by first | (simp [results, Tryz.results89, go_sem, *, aU, bA]; done) | (simp [results, Tryz.results89, go_sem, *, aU, bA]; omega) | (simp [results, Tryz.results89, go_sem, *, aU, bA]; grind)) rfl ⟨by first | rfl | (simp [*]; done), ?_⟩)
  all_goals rfl
theorem iWordOk6_c (n : Int) (w : World) : Calls Tryz.prog 89 #[.int .i64 n, .int .i64 6] w fun e w' => e = .returned (.bool (aU n 6)) ∧ w = w' := by
  go_enter Tryz.func89, Tryz.ntmps89
  go_wp2_with (first | (go_at_call 58; with_reducible refine (dc _ _ _ _).mono ?_; rintro e w1 ⟨rfl, rfl⟩))
  all_goals (refine bodyPost_ret (v := .bool (aU n 6)) (by first | (simp [results, Tryz.results89, go_sem, *, aU, bA]; done) | (simp [results, Tryz.results89, go_sem, *, aU, bA]; omega) | (simp [results, Tryz.results89, go_sem, *, aU, bA]; grind)) rfl ⟨by first | rfl | (simp [*]; done), ?_⟩)
  all_goals rfl
theorem fK (n : Int) (w : World) : Calls Tryz.prog 112 #[.int .i64 n] w fun e w' => e = .returned (.int .i64 (n % 4294967296)) ∧ w = w' := by
  go_enter Tryz.func112, Tryz.ntmps112
  go_wp2
  all_goals (refine bodyPost_ret (v := .int .i64 (n % 4294967296)) (by first | (simp [results, Tryz.results112, go_sem, *]; done) | (simp [results, Tryz.results112, go_sem, *]; omega) | (simp [results, Tryz.results112, go_sem, *]; grind) | (simp only [results, Tryz.results112]; simp; first | exact rest_lo _ ‹_› | exact rest_hi _ ‹_›)) rfl ⟨by first | rfl | (simp [*]; done), ?_⟩)
  all_goals rfl
theorem bM (a n : Int) (w : World) : Calls Tryz.prog 96 #[.int .i64 a, .int .i64 n] w fun e w' => e = .returned (.int .i64 (sA a n)) ∧ w = w' := by
  go_enter Tryz.func96, Tryz.ntmps96
  go_wp2_with (first | (go_at_call 112; with_reducible refine (fK _ _).mono ?_; rintro e w1 ⟨rfl, rfl⟩))
  all_goals (refine bodyPost_ret (v := .int .i64 (sA a n)) (by first | (simp [results, Tryz.results96, go_sem, *, sA]; done) | (simp [results, Tryz.results96, go_sem, *, sA]; omega) | (simp [results, Tryz.results96, go_sem, *, sA]; grind)) rfl ⟨by first | rfl | (simp [*]; done), ?_⟩)
  all_goals rfl
end Go.Proofs.YtccijpdjfelbmaaGreat
