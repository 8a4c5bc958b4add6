/- Contracts (A1). -/
import Derived.Test.YtebgmdiejgcoiaaG1
namespace Go.Proofs.Ytebgmdiejgcoiaa
open Go.RowKit
attribute [local go_sem] dK dH dN dI cV cL cS cP cM cN cX cR cW cO cY cU cZ bv cell?_grow frozen?_grow bz cq bL
attribute [local go_sem] aL aT bO bN bi aJ aR bP bK bf cx dh af al aG aH
set_option linter.unusedVariables false
set_option linter.unusedSimpArgs false
theorem l1In_c (n lo hi : Int) (w : World) : Calls Try.prog 55 #[.int .i64 n, .int .i64 lo, .int .i64 hi] w fun e w' => e = .returned (.bool (dT n lo hi)) ∧ w = w' := by
  go_enter Try.func55, Try.ntmps55
  go_wp2
  all_goals (refine bodyPost_ret (v := .bool (dT n lo hi)) (by first | (simp [results, Try.results55, go_sem, *, dT]; done) | (simp [results, Try.results55, go_sem, *, dT]; omega) | (simp [results, Try.results55, go_sem, *, dT]; grind)) rfl ⟨by first | rfl | (simp [*]; done), ?_⟩)
  all_goals rfl
theorem within_c (n lo hi : Int) (w : World) : Calls Try.prog 77 #[.int .i64 n, .int .i64 lo, .int .i64 hi] w fun e w' => e = .returned (.bool (dT n lo hi)) ∧ w = w' := by
  go_enter Try.func77, Try.ntmps77
  go_wp2
  all_goals (refine bodyPost_ret (v := .bool (dT n lo hi)) (by first | (simp [results, Try.results77, go_sem, *, dT]; done) | (simp [results, Try.results77, go_sem, *, dT]; omega) | (simp [results, Try.results77, go_sem, *, dT]; grind)) rfl ⟨by first | rfl | (simp [*]; done), ?_⟩)
  all_goals rfl
theorem l1Min_c (a b : Int) (w : World) : Calls Try.prog 52 #[.int .i64 a, .int .i64 b] w fun e w' => e = .returned (.int .i64 (min a b)) ∧ w = w' := by
  go_enter Try.func52, Try.ntmps52
  go_wp2
  all_goals (refine bodyPost_ret (v := .int .i64 (min a b)) (by first | (simp [results, Try.results52, go_sem, *]; done) | (simp [results, Try.results52, go_sem, *]; omega) | (simp [results, Try.results52, go_sem, *]; grind)) rfl ⟨by first | rfl | (simp [*]; done), ?_⟩)
  all_goals rfl
theorem l1Max_c (a b : Int) (w : World) : Calls Try.prog 53 #[.int .i64 a, .int .i64 b] w fun e w' => e = .returned (.int .i64 (max a b)) ∧ w = w' := by
  go_enter Try.func53, Try.ntmps53
  go_wp2
  all_goals (refine bodyPost_ret (v := .int .i64 (max a b)) (by first | (simp [results, Try.results53, go_sem, *]; done) | (simp [results, Try.results53, go_sem, *]; omega) | (simp [results, Try.results53, go_sem, *]; grind)) rfl ⟨by first | rfl | (simp [*]; done), ?_⟩)
  all_goals rfl
theorem sWordOk32_c (n : Int) (w : World) : Calls Try.prog 79 #[.int .i64 n, .int .i64 32] w fun e w' => e = .returned (.bool (aD n 32)) ∧ w = w' := by
  go_enter Try.func79, Try.ntmps79
  go_wp2_with (first | (go_at_call 55; with_reducible refine (l1In_c _ _ _ _).mono ?_; rintro e w1 ⟨rfl, rfl⟩))
  all_goals (refine bodyPost_ret (v := .bool (aD n 32)) (by first | (simp [results, Try.results79, go_sem, *, aD, dT]; done) | (simp [results, Try.results79, go_sem, *, aD, dT]; omega) | (simp [results, Try.results79, go_sem, *, aD, dT]; grind)) rfl ⟨by first | rfl | (simp [*]; done), ?_⟩)
  all_goals rfl
theorem iWordOk32_c (n : Int) (w : World) : Calls Try.prog 76 #[.int .i64 n, .int .i64 32] w fun e w' => e = .returned (.bool (aD n 32)) ∧ w = w' := by
  go_enter Try.func76, Try.ntmps76
  go_wp2_with (first | (go_at_call 77; with_reducible refine (within_c _ _ _ _).mono ?_; rintro e w1 ⟨rfl, rfl⟩))
  all_goals (refine bodyPost_ret (v := .bool (aD n 32)) (by first | (simp [results, Try.results76, go_sem, *, aD, dT]; done) | (simp [results, Try.results76, go_sem, *, aD, dT]; omega) | (simp [results, Try.results76, go_sem, *, aD, dT]; grind)) rfl ⟨by first | rfl | (simp [*]; done), ?_⟩)
  all_goals rfl
theorem sRest_c (n : Int) (w : World) : Calls Try.prog 36 #[.int .i64 n] w fun e w' => e = .returned (.int .i64 (n % 4294967296)) ∧ w = w' := by
  go_enter Try.func36, Try.ntmps36
  go_wp2
  all_goals (refine bodyPost_ret (v := .int .i64 (n % 4294967296)) (by first | (simp [results, Try.results36, go_sem, *]; done) | (simp [results, Try.results36, go_sem, *]; omega) | (simp [results, Try.results36, go_sem, *]; grind) | (simp only [results, Try.results36]; simp; first | exact rest_lo _ ‹_› | exact rest_hi _ ‹_›)) rfl ⟨by first | rfl | (simp [*]; done), ?_⟩)
  all_goals rfl
theorem cf (a n : Int) (w : World) : Calls Try.prog 28 #[.int .i64 a, .int .i64 n] w fun e w' => e = .returned (.int .i64 (sA a n)) ∧ w = w' := by
  go_enter Try.func28, Try.ntmps28
  go_wp2_with (first | (go_at_call 36; with_reducible refine (sRest_c _ _).mono ?_; rintro e w1 ⟨rfl, rfl⟩))
  all_goals (refine bodyPost_ret (v := .int .i64 (sA a n)) (by first | (simp [results, Try.results28, go_sem, *, sA]; done) | (simp [results, Try.results28, go_sem, *, sA]; omega) | (simp [results, Try.results28, go_sem, *, sA]; grind)) rfl ⟨by first | rfl | (simp [*]; done), ?_⟩)
  all_goals rfl
theorem cu (a n : Int) (w : World) : Calls Try.prog 26 #[.int .i64 a, .int .i64 n] w fun e w' => e = .returned (.int .i64 (sA a n)) ∧ w = w' := by
  go_enter Try.func26, Try.ntmps26
  go_wp2
  all_goals (refine bodyPost_ret (v := .int .i64 (sA a n)) (by first | (simp [results, Try.results26, go_sem, *, sA, e9, ev]; done) | (simp [results, Try.results26, go_sem, *, sA, e9, ev]; omega) | (simp [results, Try.results26, go_sem, *, sA, e9, ev]; grind)) rfl ⟨by first | rfl | (simp [*]; done), ?_⟩)
  all_goals rfl
end Go.Proofs.Ytebgmdiejgcoiaa
