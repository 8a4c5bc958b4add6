/- Contracts (A1). -/
import Derived.Test.YtomllckfbkiolaaB
namespace Go.Proofs.Ytomllckfbkiolaa
open Go.RowKit
attribute [local go_sem] lt_gap le_gap eq_gap gap_eq
set_option linter.unusedVariables false
set_option linter.unusedSimpArgs false

theorem l1In_c (n lo hi : Int) (w : World) : Calls Try.prog 51 #[.int .i64 n, .int .i64 lo, .int .i64 hi] w fun e w' => e = .returned (.bool (inB n lo hi)) ∧ w = w' := by
  go_enter Try.func51, Try.ntmps51
  go_wp2
  all_goals (refine bodyPost_ret (v := .bool (inB n lo hi)) (by first | (simp [results, Try.results51, go_sem, *, inB]; done) | (simp [results, Try.results51, go_sem, *, inB]; omega)) rfl ⟨rfl, ?_⟩)
  all_goals rfl
theorem within_c (n lo hi : Int) (w : World) : Calls Try.prog 52 #[.int .i64 n, .int .i64 lo, .int .i64 hi] w fun e w' => e = .returned (.bool (inB n lo hi)) ∧ w = w' := by
  go_enter Try.func52, Try.ntmps52
  go_wp2
  all_goals (refine bodyPost_ret (v := .bool (inB n lo hi)) (by first | (simp [results, Try.results52, go_sem, *, inB]; done) | (simp [results, Try.results52, go_sem, *, inB]; omega)) rfl ⟨rfl, ?_⟩)
  all_goals rfl
theorem sWordOk32_c (n : Int) (w : World) : Calls Try.prog 61 #[.int .i64 n, .int .i64 32] w fun e w' => e = .returned (.bool (wordOk n 32)) ∧ w = w' := by
  go_enter Try.func61, Try.ntmps61
  go_wp2_with (first | (go_at_call 51; with_reducible refine (l1In_c _ _ _ _).mono ?_; rintro e w1 ⟨rfl, rfl⟩))
  all_goals (refine bodyPost_ret (v := .bool (wordOk n 32)) (by first | (simp [results, Try.results61, go_sem, *, wordOk, inB]; done) | (simp [results, Try.results61, go_sem, *, wordOk, inB]; omega)) rfl ⟨rfl, ?_⟩)
  all_goals rfl
theorem sWordOk16_c (n : Int) (w : World) : Calls Try.prog 61 #[.int .i64 n, .int .i64 16] w fun e w' => e = .returned (.bool (wordOk n 16)) ∧ w = w' := by
  go_enter Try.func61, Try.ntmps61
  go_wp2_with (first | (go_at_call 51; with_reducible refine (l1In_c _ _ _ _).mono ?_; rintro e w1 ⟨rfl, rfl⟩))
  all_goals (refine bodyPost_ret (v := .bool (wordOk n 16)) (by first | (simp [results, Try.results61, go_sem, *, wordOk, inB]; done) | (simp [results, Try.results61, go_sem, *, wordOk, inB]; omega)) rfl ⟨rfl, ?_⟩)
  all_goals rfl
theorem sWordOk6_c (n : Int) (w : World) : Calls Try.prog 61 #[.int .i64 n, .int .i64 6] w fun e w' => e = .returned (.bool (wordOk n 6)) ∧ w = w' := by
  go_enter Try.func61, Try.ntmps61
  go_wp2_with (first | (go_at_call 51; with_reducible refine (l1In_c _ _ _ _).mono ?_; rintro e w1 ⟨rfl, rfl⟩))
  all_goals (refine bodyPost_ret (v := .bool (wordOk n 6)) (by first | (simp [results, Try.results61, go_sem, *, wordOk, inB]; done) | (simp [results, Try.results61, go_sem, *, wordOk, inB]; omega)) rfl ⟨rfl, ?_⟩)
  all_goals rfl
theorem iWordOk32_c (n : Int) (w : World) : Calls Try.prog 62 #[.int .i64 n, .int .i64 32] w fun e w' => e = .returned (.bool (wordOk n 32)) ∧ w = w' := by
  go_enter Try.func62, Try.ntmps62
  go_wp2_with (first | (go_at_call 52; with_reducible refine (within_c _ _ _ _).mono ?_; rintro e w1 ⟨rfl, rfl⟩))
  all_goals (refine bodyPost_ret (v := .bool (wordOk n 32)) (by first | (simp [results, Try.results62, go_sem, *, wordOk, inB]; done) | (simp [results, Try.results62, go_sem, *, wordOk, inB]; omega)) rfl ⟨rfl, ?_⟩)
  all_goals rfl
theorem iWordOk16_c (n : Int) (w : World) : Calls Try.prog 62 #[.int .i64 n, .int .i64 16] w fun e w' => e = .returned (.bool (wordOk n 16)) ∧ w = w' := by
  go_enter Try.func62, Try.ntmps62
  go_wp2_with (first | (go_at_call 52; with_reducible refine (within_c _ _ _ _).mono ?_; rintro e w1 ⟨rfl, rfl⟩))
  all_goals (refine bodyPost_ret (v := .bool (wordOk n 16)) (by first | (simp [results, Try.results62, go_sem, *, wordOk, inB]; done) | (simp [results, Try.results62, go_sem, *, wordOk, inB]; omega)) rfl ⟨rfl, ?_⟩)
  all_goals rfl
theorem iWordOk6_c (n : Int) (w : World) : Calls Try.prog 62 #[.int .i64 n, .int .i64 6] w fun e w' => e = .returned (.bool (wordOk n 6)) ∧ w = w' := by
  go_enter Try.func62, Try.ntmps62
  go_wp2_with (first | (go_at_call 52; with_reducible refine (within_c _ _ _ _).mono ?_; rintro e w1 ⟨rfl, rfl⟩))
  all_goals (refine bodyPost_ret (v := .bool (wordOk n 6)) (by first | (simp [results, Try.results62, go_sem, *, wordOk, inB]; done) | (simp [results, Try.results62, go_sem, *, wordOk, inB]; omega)) rfl ⟨rfl, ?_⟩)
  all_goals rfl
theorem sRest_c (n : Int) (w : World) : Calls Try.prog 83 #[.int .i64 n] w fun e w' => e = .returned (.int .i64 (n % 4294967296)) ∧ w = w' := by
  go_enter Try.func83, Try.ntmps83
  go_wp2
  all_goals (refine bodyPost_ret (v := .int .i64 (n % 4294967296)) (by first | (simp [results, Try.results83, go_sem, *]; done) | (simp [results, Try.results83, go_sem, *]; omega) | (simp only [results, Try.results83]; simp; first | exact rest_lo _ ‹_› | exact rest_hi _ ‹_›)) rfl ⟨rfl, ?_⟩)
  all_goals rfl
theorem sSeqAdd_c (a n : Int) (w : World) : Calls Try.prog 65 #[.int .i64 a, .int .i64 n] w fun e w' => e = .returned (.int .i64 (seqAdd a n)) ∧ w = w' := by
  go_enter Try.func65, Try.ntmps65
  go_wp2_with (first | (go_at_call 83; with_reducible refine (sRest_c _ _).mono ?_; rintro e w1 ⟨rfl, rfl⟩))
  all_goals (refine bodyPost_ret (v := .int .i64 (seqAdd a n)) (by first | (simp [results, Try.results65, go_sem, *, seqAdd]; done) | (simp [results, Try.results65, go_sem, *, seqAdd]; omega)) rfl ⟨rfl, ?_⟩)
  all_goals rfl
theorem iSeqAdd_c (a n : Int) (w : World) : Calls Try.prog 67 #[.int .i64 a, .int .i64 n] w fun e w' => e = .returned (.int .i64 (seqAdd a n)) ∧ w = w' := by
  go_enter Try.func67, Try.ntmps67
  go_wp2
  all_goals (refine bodyPost_ret (v := .int .i64 (seqAdd a n)) (by first | (simp [results, Try.results67, go_sem, *, seqAdd, and_mask, wrap_mod]; done) | (simp [results, Try.results67, go_sem, *, seqAdd, and_mask, wrap_mod]; omega)) rfl ⟨rfl, ?_⟩)
  all_goals rfl
end Go.Proofs.Ytomllckfbkiolaa
