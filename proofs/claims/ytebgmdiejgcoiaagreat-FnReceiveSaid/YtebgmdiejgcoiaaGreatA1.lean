/- Contracts (A1). -/
import Derived.Test.YtebgmdiejgcoiaaGreatG1
namespace Go.Proofs.YtebgmdiejgcoiaaGreat
open Go.RowKit
attribute [local go_sem] gO gJ gV gN eS eW ec eZ eX eT ed eh eR eV eb ee eg aO cell?_grow frozen?_grow cI e5 dV
attribute [local go_sem] cV co dW dY dk cX cn dU dX dj e6 fF bE bU cU cT
set_option linter.unusedVariables false
set_option linter.unusedSimpArgs false
theorem f0 (n lo hi : Int) (w : World) : Calls Tryz.prog 67 #[.int .i64 n, .int .i64 lo, .int .i64 hi] w fun e w' => e = .returned (.bool (ci n lo hi)) ∧ w = w' := by
  go_enter Tryz.func67, Tryz.ntmps67
  go_wp2
  all_goals (refine bodyPost_ret (v := .bool (ci n lo hi)) (by first | (simp [results, Tryz.results67, go_sem, *, ci]; done) | (simp [results, Tryz.results67, go_sem, *, ci]; omega) | (simp [results, Tryz.results67, go_sem, *, ci]; grind)) rfl ⟨by first | rfl | (simp [*]; done), ?_⟩)
  all_goals rfl
theorem dM (n lo hi : Int) (w : World) : Calls Tryz.prog 62 #[.int .i64 n, .int .i64 lo, .int .i64 hi] w fun e w' => e = .returned (.bool (ci n lo hi)) ∧ w = w' := by
  go_enter Tryz.func62, Tryz.ntmps62
  go_wp2
  all_goals (refine bodyPost_ret (v := .bool (ci n lo hi)) (by first | (simp [results, Tryz.results62, go_sem, *, ci]; done) | (simp [results, Tryz.results62, go_sem, *, ci]; omega) | (simp [results, Tryz.results62, go_sem, *, ci]; grind)) rfl ⟨by first | rfl | (simp [*]; done), ?_⟩)
  all_goals rfl
theorem go (a b : Int) (w : World) : Calls Tryz.prog 75 #[.int .i64 a, .int .i64 b] w fun e w' => e = .returned (.int .i64 (min a b)) ∧ w = w' := by
  go_enter Tryz.func75, Tryz.ntmps75
  go_wp2
  all_goals (refine bodyPost_ret (v := .int .i64 (min a b)) (by first | (simp [results, Tryz.results75, go_sem, *]; done) | (simp [results, Tryz.results75, go_sem, *]; omega) | (simp [results, Tryz.results75, go_sem, *]; grind)) rfl ⟨by first | rfl | (simp [*]; done), ?_⟩)
  all_goals rfl
theorem eo (a b : Int) (w : World) : Calls Tryz.prog 76 #[.int .i64 a, .int .i64 b] w fun e w' => e = .returned (.int .i64 (max a b)) ∧ w = w' := by
  go_enter Tryz.func76, Tryz.ntmps76
  go_wp2
  all_goals (refine bodyPost_ret (v := .int .i64 (max a b)) (by first | (simp [results, Tryz.results76, go_sem, *]; done) | (simp [results, Tryz.results76, go_sem, *]; omega) | (simp [results, Tryz.results76, go_sem, *]; grind)) rfl ⟨by first | rfl | (simp [*]; done), ?_⟩)
  all_goals rfl
theorem fg (n : Int) (w : World) : Calls Tryz.prog 114 #[.int .i64 n, .int .i64 32] w fun e w' => e = .returned (.bool (ac n 32)) ∧ w = w' := by
  go_enter Tryz.func114, Tryz.ntmps114
  go_wp2_with (first | (go_at_call 67; with_reducible refine (f0 _ _ _ _).mono ?_; rintro e w1 ⟨rfl, rfl⟩))
  all_goals (refine bodyPost_ret (v := .bool (ac n 32)) (by first | (simp [results, Tryz.results114, go_sem, *, ac, ci]; done) | (simp [results, Tryz.results114, go_sem, *, ac, ci]; omega) | (simp [results, Tryz.results114, go_sem, *, ac, ci]; grind)) rfl ⟨by first | rfl | (simp [*]; done), ?_⟩)
  all_goals rfl
theorem ez (n : Int) (w : World) : Calls Tryz.prog 114 #[.int .i64 n, .int .i64 16] w fun e w' => e = .returned (.bool (ac n 16)) ∧ w = w' := by
  go_enter Tryz.func114, Tryz.ntmps114
  go_wp2_with (first | (go_at_call 67; with_reducible refine (f0 _ _ _ _).mono ?_; rintro e w1 ⟨rfl, rfl⟩))
  all_goals (refine bodyPost_ret (v := .bool (ac n 16)) (by first | (simp [results, Tryz.results114, go_sem, *, ac, ci]; done) | (simp [results, Tryz.results114, go_sem, *, ac, ci]; omega) | (simp [results, Tryz.results114, go_sem, *, ac, ci]; grind)) rfl ⟨by first | rfl | (simp [*]; done), ?_⟩)
  all_goals rfl
theorem ii (n : Int) (w : World) : Calls Tryz.prog 114 #[.int .i64 n, .int .i64 6] w fun e w' => e = .returned (.bool (ac n 6)) ∧ w = w' := by
  go_enter Tryz.func114, Tryz.ntmps114
  go_wp2_with (first | (go_at_call 67; with_reducible refine (f0 _ _ _ _).mono ?_; rintro e w1 ⟨rfl, rfl⟩))
  all_goals (refine bodyPost_ret (v := .bool (ac n 6)) (by first | (simp [results, Tryz.results114, go_sem, *, ac, ci]; done) | (simp [results, Tryz.results114, go_sem, *, ac, ci]; omega) | (simp [results, Tryz.results114, go_sem, *, ac, ci]; grind)) rfl ⟨by first | rfl | (simp [*]; done), ?_⟩)
  all_goals rfl
theorem fu (n : Int) (w : World) : Calls Tryz.prog 113 #[.int .i64 n, .int .i64 32] w fun e w' => e = .returned (.bool (ac n 32)) ∧ w = w' := by
  go_enter Tryz.func113, Tryz.ntmps113
  go_wp2_with (first | (go_at_call 62; with_reducible refine (dM _ _ _ _).mono ?_; rintro e w1 ⟨rfl, rfl⟩))
  all_goals (refine bodyPost_ret (v := .bool (ac n 32)) (by first | (simp [results, Tryz.results113, go_sem, *, ac, ci]; done) | (simp [results, Tryz.results113, go_sem, *, ac, ci]; omega) | (simp [results, Tryz.results113, go_sem, *, ac, ci]; grind)) rfl ⟨by first | rfl | (simp [*]; done), ?_⟩)
  all_goals rfl
theorem ft (n : Int) (w : World) : Calls Tryz.prog 113 #[.int .i64 n, .int .i64 16] w fun e w' => e = .returned (.bool (ac n 16)) ∧ w = w' := by
  go_enter Tryz.func113, Tryz.ntmps113
  go_wp2_with (first | (go_at_call 62; with_reducible refine (dM _ _ _ _).mono ?_; rintro e w1 ⟨rfl, rfl⟩))
  all_goals (refine bodyPost_ret (v := .bool (ac n 16)) (by first | (simp [results, Tryz.results113, go_sem, *, ac, ci]; done) | (simp [results, Tryz.results113, go_sem, *, ac, ci]; omega) | (simp [results, Tryz.results113, go_sem, *, ac, ci]; grind)) rfl ⟨by first | rfl | (simp [*]; done), ?_⟩)
  all_goals rfl
theorem ic (n : Int) (w : World) : Calls Tryz.prog 113 #[.int .i64 n, .int .i64 6] w fun e w' => e = .returned (.bool (ac n 6)) ∧ w = w' := by
  go_enter Tryz.func113, Tryz.ntmps113
  go_wp2_with (first | (go_at_call 62; with_reducible refine (dM _ _ _ _).mono ?_; rintro e w1 ⟨rfl, rfl⟩))
  all_goals (refine bodyPost_ret (v := .bool (ac n 6)) (by first | (simp [results, Tryz.results113, go_sem, *, ac, ci]; done) | (simp [results, Tryz.results113, go_sem, *, ac, ci]; omega) | (simp [results, Tryz.results113, go_sem, *, ac, ci]; grind)) rfl ⟨by first | rfl | (simp [*]; done), ?_⟩)
  all_goals rfl
theorem gr (n : Int) (w : World) : Calls Tryz.prog 122 #[.int .i64 n] w fun e w' => e = .returned (.int .i64 (n % 4294967296)) ∧ w = w' := by
  go_enter Tryz.func122, Tryz.ntmps122
  go_wp2
  all_goals (refine bodyPost_ret (v := .int .i64 (n % 4294967296)) (by first | (simp [results, Tryz.results122, go_sem, *]; done) | (simp [results, Tryz.results122, go_sem, *]; omega) | (simp [results, Tryz.results122, go_sem, *]; grind) | (simp only [results, Tryz.results122]; simp; first | exact rest_lo _ ‹_› | exact rest_hi _ ‹_›)) rfl ⟨by first | rfl | (simp [*]; done), ?_⟩)
  all_goals rfl
theorem bG (a n : Int) (w : World) : Calls Tryz.prog 120 #[.int .i64 a, .int .i64 n] w fun e w' => e = .returned (.int .i64 (sA a n)) ∧ w = w' := by
  go_enter Tryz.func120, Tryz.ntmps120
  go_wp2_with (first | (go_at_call 122; with_reducible refine (gr _ _).mono ?_; rintro e w1 ⟨rfl, rfl⟩))
  all_goals (refine bodyPost_ret (v := .int .i64 (sA a n)) (by first | (simp [results, Tryz.results120, go_sem, *, sA]; done) | (simp [results, Tryz.results120, go_sem, *, sA]; omega) | (simp [results, Tryz.results120, go_sem, *, sA]; grind)) rfl ⟨by first | rfl | (simp [*]; done), ?_⟩)
  all_goals rfl
theorem gc (a n : Int) (w : World) : Calls Tryz.prog 115 #[.int .i64 a, .int .i64 n] w fun e w' => e = .returned (.int .i64 (sA a n)) ∧ w = w' := by
  go_enter Tryz.func115, Tryz.ntmps115
  go_wp2
  all_goals (refine bodyPost_ret (v := .int .i64 (sA a n)) (by first | (simp [results, Tryz.results115, go_sem, *, sA, iq, iv]; done) | (simp [results, Tryz.results115, go_sem, *, sA, iq, iv]; omega) | (simp [results, Tryz.results115, go_sem, *, sA, iq, iv]; grind)) rfl ⟨by first | rfl | (simp [*]; done), ?_⟩)
  all_goals rfl
end Go.Proofs.YtebgmdiejgcoiaaGreat
