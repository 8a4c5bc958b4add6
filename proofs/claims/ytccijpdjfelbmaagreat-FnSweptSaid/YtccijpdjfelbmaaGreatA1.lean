/- Contracts (A1). -/
import Derived.Test.YtccijpdjfelbmaaGreatG1
namespace Go.Proofs.YtccijpdjfelbmaaGreat
open Go.RowKit
attribute [local go_sem] gq gu fB fH ek eo et er ei eh ef es ej ec ed eu el aC cell?_grow frozen?_grow cV dO dh
attribute [local go_sem] ci bB dp dk dz cl c5 di dj d8 dN fY bV bl ce cg
set_option linter.unusedVariables false
set_option linter.unusedSimpArgs false
theorem dA (n lo hi : Int) (w : World) : Calls Tryz.prog 63 #[.int .i64 n, .int .i64 lo, .int .i64 hi] w fun e w' => e = .returned (.bool (cG n lo hi)) ∧ w = w' := by
  go_enter Tryz.func63, Tryz.ntmps63
  go_wp2
  all_goals (refine bodyPost_ret (v := .bool (cG n lo hi)) (by first | (simp [results, Tryz.results63, go_sem, *, cG]; done) | (simp [results, Tryz.results63, go_sem, *, cG]; omega) | (simp [results, Tryz.results63, go_sem, *, cG]; grind)) rfl ⟨by first | rfl | (simp [*]; done), ?_⟩)
  all_goals rfl
theorem gk (a b : Int) (w : World) : Calls Tryz.prog 118 #[.int .i64 a, .int .i64 b] w fun e w' => e = .returned (.int .i64 (min a b)) ∧ w = w' := by
  go_enter Tryz.func118, Tryz.ntmps118
  go_wp2
  all_goals (refine bodyPost_ret (v := .int .i64 (min a b)) (by first | (simp [results, Tryz.results118, go_sem, *]; done) | (simp [results, Tryz.results118, go_sem, *]; omega) | (simp [results, Tryz.results118, go_sem, *]; grind)) rfl ⟨by first | rfl | (simp [*]; done), ?_⟩)
  all_goals rfl
theorem ez (a b : Int) (w : World) : Calls Tryz.prog 95 #[.int .i64 a, .int .i64 b] w fun e w' => e = .returned (.int .i64 (max a b)) ∧ w = w' := by
  go_enter Tryz.func95, Tryz.ntmps95
  go_wp2
  all_goals (refine bodyPost_ret (v := .int .i64 (max a b)) (by first | (simp [results, Tryz.results95, go_sem, *]; done) | (simp [results, Tryz.results95, go_sem, *]; omega) | (simp [results, Tryz.results95, go_sem, *]; grind)) rfl ⟨by first | rfl | (simp [*]; done), ?_⟩)
  all_goals rfl
theorem eI (n : Int) (w : World) : Calls Tryz.prog 91 #[.int .i64 n, .int .i64 32] w fun e w' => e = .returned (.bool (aL n 32)) ∧ w = w' := by
  go_enter Tryz.func91, Tryz.ntmps91
  go_wp2_with (first | (go_at_call 63; with_reducible refine (dA _ _ _ _).mono ?_; rintro e w1 ⟨rfl, rfl⟩))
  all_goals (refine bodyPost_ret (v := .bool (aL n 32)) (by first | (simp [results, Tryz.results91, go_sem, *, aL, cG]; done) | (simp [results, Tryz.results91, go_sem, *, aL, cG]; omega) | (simp [results, Tryz.results91, go_sem, *, aL, cG]; grind)) rfl ⟨by first | rfl | (simp [*]; done), ?_⟩)
  all_goals rfl
theorem dF (n : Int) (w : World) : Calls Tryz.prog 91 #[.int .i64 n, .int .i64 16] w fun e w' => e = .returned (.bool (aL n 16)) ∧ w = w' := by
  go_enter Tryz.func91, Tryz.ntmps91
  go_wp2_with (first | (go_at_call 63; with_reducible refine (dA _ _ _ _).mono ?_; rintro e w1 ⟨rfl, rfl⟩))
  all_goals (refine bodyPost_ret (v := .bool (aL n 16)) (by first | (simp [results, Tryz.results91, go_sem, *, aL, cG]; done) | (simp [results, Tryz.results91, go_sem, *, aL, cG]; omega) | (simp [results, Tryz.results91, go_sem, *, aL, cG]; grind)) rfl ⟨by first | rfl | (simp [*]; done), ?_⟩)
  all_goals rfl
theorem gD (n : Int) (w : World) : Calls Tryz.prog 91 #[.int .i64 n, .int .i64 6] w fun e w' => e = .returned (.bool (aL n 6)) ∧ w = w' := by
  go_enter Tryz.func91, Tryz.ntmps91
  go_wp2_with (first | (go_at_call 63; with_reducible refine (dA _ _ _ _).mono ?_; rintro e w1 ⟨rfl, rfl⟩))
  all_goals (refine bodyPost_ret (v := .bool (aL n 6)) (by first | (simp [results, Tryz.results91, go_sem, *, aL, cG]; done) | (simp [results, Tryz.results91, go_sem, *, aL, cG]; omega) | (simp [results, Tryz.results91, go_sem, *, aL, cG]; grind)) rfl ⟨by first | rfl | (simp [*]; done), ?_⟩)
  all_goals rfl
theorem fO (n : Int) (w : World) : Calls Tryz.prog 112 #[.int .i64 n] w fun e w' => e = .returned (.int .i64 (n % 4294967296)) ∧ w = w' := by
  go_enter Tryz.func112, Tryz.ntmps112
  go_wp2
  all_goals (refine bodyPost_ret (v := .int .i64 (n % 4294967296)) (by first | (simp [results, Tryz.results112, go_sem, *]; done) | (simp [results, Tryz.results112, go_sem, *]; omega) | (simp [results, Tryz.results112, go_sem, *]; grind) | (simp only [results, Tryz.results112]; simp; first | exact rest_lo _ ‹_› | exact rest_hi _ ‹_›)) rfl ⟨by first | rfl | (simp [*]; done), ?_⟩)
  all_goals rfl
theorem bW (a n : Int) (w : World) : Calls Tryz.prog 96 #[.int .i64 a, .int .i64 n] w fun e w' => e = .returned (.int .i64 (sA a n)) ∧ w = w' := by
  go_enter Tryz.func96, Tryz.ntmps96
  go_wp2_with (first | (go_at_call 112; with_reducible refine (fO _ _).mono ?_; rintro e w1 ⟨rfl, rfl⟩))
  all_goals (refine bodyPost_ret (v := .int .i64 (sA a n)) (by first | (simp [results, Tryz.results96, go_sem, *, sA]; done) | (simp [results, Tryz.results96, go_sem, *, sA]; omega) | (simp [results, Tryz.results96, go_sem, *, sA]; grind)) rfl ⟨by first | rfl | (simp [*]; done), ?_⟩)
  all_goals rfl
end Go.Proofs.YtccijpdjfelbmaaGreat
