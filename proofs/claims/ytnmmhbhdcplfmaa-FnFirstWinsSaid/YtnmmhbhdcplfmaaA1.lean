/- Contracts (A1). -/
import Derived.Test.YtnmmhbhdcplfmaaG1
namespace Go.Proofs.Ytnmmhbhdcplfmaa
open Go.RowKit
attribute [local go_sem] lt_gap le_gap eq_gap gap_eq lt_ones2 lt_ones3 lt_ones4 lt_ones5 lt_ones6 lt_ones7 lt_ones8 lt_gap_1 lt_gap_2 lt_gap_3 lt_gap_4 lt_gap_5 lt_gap_6 size_grow cell?_grow frozen?_grow setCell_grow drew_grow drewN_grow
attribute [local go_sem] boxOf_alloc_at boxOf_alloc_past boxOf_grow boxOf_drew boxOf_drewN isBox_alloc_at isBox_alloc_past isBox_grow isBox_drew isBox_drewN putAt_all putAt setCells_alloc_at setCells_alloc_past setCells_grow setCells_drew
set_option linter.unusedVariables false
set_option linter.unusedSimpArgs false

theorem l1In_c (n lo hi : Int) (w : World) : Calls Try.prog 41 #[.int .i64 n, .int .i64 lo, .int .i64 hi] w fun e w' => e = .returned (.bool (inB n lo hi)) ∧ w = w' := by
  go_enter Try.func41, Try.ntmps41
  go_wp2
  all_goals (refine bodyPost_ret (v := .bool (inB n lo hi)) (by first | (simp [results, Try.results41, go_sem, *, inB]; done) | (simp [results, Try.results41, go_sem, *, inB]; omega) | (simp [results, Try.results41, go_sem, *, inB]; grind)) rfl ⟨by first | rfl | (simp [*]; done), ?_⟩)
  all_goals rfl
theorem within_c (n lo hi : Int) (w : World) : Calls Try.prog 43 #[.int .i64 n, .int .i64 lo, .int .i64 hi] w fun e w' => e = .returned (.bool (inB n lo hi)) ∧ w = w' := by
  go_enter Try.func43, Try.ntmps43
  go_wp2
  all_goals (refine bodyPost_ret (v := .bool (inB n lo hi)) (by first | (simp [results, Try.results43, go_sem, *, inB]; done) | (simp [results, Try.results43, go_sem, *, inB]; omega) | (simp [results, Try.results43, go_sem, *, inB]; grind)) rfl ⟨by first | rfl | (simp [*]; done), ?_⟩)
  all_goals rfl
theorem l1Min_c (a b : Int) (w : World) : Calls Try.prog 39 #[.int .i64 a, .int .i64 b] w fun e w' => e = .returned (.int .i64 (min a b)) ∧ w = w' := by
  go_enter Try.func39, Try.ntmps39
  go_wp2
  all_goals (refine bodyPost_ret (v := .int .i64 (min a b)) (by first | (simp [results, Try.results39, go_sem, *]; done) | (simp [results, Try.results39, go_sem, *]; omega) | (simp [results, Try.results39, go_sem, *]; grind)) rfl ⟨by first | rfl | (simp [*]; done), ?_⟩)
  all_goals rfl
theorem l1Max_c (a b : Int) (w : World) : Calls Try.prog 38 #[.int .i64 a, .int .i64 b] w fun e w' => e = .returned (.int .i64 (max a b)) ∧ w = w' := by
  go_enter Try.func38, Try.ntmps38
  go_wp2
  all_goals (refine bodyPost_ret (v := .int .i64 (max a b)) (by first | (simp [results, Try.results38, go_sem, *]; done) | (simp [results, Try.results38, go_sem, *]; omega) | (simp [results, Try.results38, go_sem, *]; grind)) rfl ⟨by first | rfl | (simp [*]; done), ?_⟩)
  all_goals rfl
theorem sWordOk32_c (n : Int) (w : World) : Calls Try.prog 40 #[.int .i64 n, .int .i64 32] w fun e w' => e = .returned (.bool (wordOk n 32)) ∧ w = w' := by
  go_enter Try.func40, Try.ntmps40
  go_wp2_with (first | (go_at_call 41; with_reducible refine (l1In_c _ _ _ _).mono ?_; rintro e w1 ⟨rfl, rfl⟩))
  all_goals (refine bodyPost_ret (v := .bool (wordOk n 32)) (by first | (simp [results, Try.results40, go_sem, *, wordOk, inB]; done) | (simp [results, Try.results40, go_sem, *, wordOk, inB]; omega) | (simp [results, Try.results40, go_sem, *, wordOk, inB]; grind)) rfl ⟨by first | rfl | (simp [*]; done), ?_⟩)
  all_goals rfl
theorem iWordOk32_c (n : Int) (w : World) : Calls Try.prog 42 #[.int .i64 n, .int .i64 32] w fun e w' => e = .returned (.bool (wordOk n 32)) ∧ w = w' := by
  go_enter Try.func42, Try.ntmps42
  go_wp2_with (first | (go_at_call 43; with_reducible refine (within_c _ _ _ _).mono ?_; rintro e w1 ⟨rfl, rfl⟩))
  all_goals (refine bodyPost_ret (v := .bool (wordOk n 32)) (by first | (simp [results, Try.results42, go_sem, *, wordOk, inB]; done) | (simp [results, Try.results42, go_sem, *, wordOk, inB]; omega) | (simp [results, Try.results42, go_sem, *, wordOk, inB]; grind)) rfl ⟨by first | rfl | (simp [*]; done), ?_⟩)
  all_goals rfl
theorem sRest_c (n : Int) (w : World) : Calls Try.prog 61 #[.int .i64 n] w fun e w' => e = .returned (.int .i64 (n % 4294967296)) ∧ w = w' := by
  go_enter Try.func61, Try.ntmps61
  go_wp2
  all_goals (refine bodyPost_ret (v := .int .i64 (n % 4294967296)) (by first | (simp [results, Try.results61, go_sem, *]; done) | (simp [results, Try.results61, go_sem, *]; omega) | (simp [results, Try.results61, go_sem, *]; grind) | (simp only [results, Try.results61]; simp; first | exact rest_lo _ ‹_› | exact rest_hi _ ‹_›)) rfl ⟨by first | rfl | (simp [*]; done), ?_⟩)
  all_goals rfl
theorem sSeqAdd_c (a n : Int) (w : World) : Calls Try.prog 69 #[.int .i64 a, .int .i64 n] w fun e w' => e = .returned (.int .i64 (seqAdd a n)) ∧ w = w' := by
  go_enter Try.func69, Try.ntmps69
  go_wp2_with (first | (go_at_call 61; with_reducible refine (sRest_c _ _).mono ?_; rintro e w1 ⟨rfl, rfl⟩))
  all_goals (refine bodyPost_ret (v := .int .i64 (seqAdd a n)) (by first | (simp [results, Try.results69, go_sem, *, seqAdd]; done) | (simp [results, Try.results69, go_sem, *, seqAdd]; omega) | (simp [results, Try.results69, go_sem, *, seqAdd]; grind)) rfl ⟨by first | rfl | (simp [*]; done), ?_⟩)
  all_goals rfl
theorem iSeqAdd_c (a n : Int) (w : World) : Calls Try.prog 32 #[.int .i64 a, .int .i64 n] w fun e w' => e = .returned (.int .i64 (seqAdd a n)) ∧ w = w' := by
  go_enter Try.func32, Try.ntmps32
  go_wp2
  all_goals (refine bodyPost_ret (v := .int .i64 (seqAdd a n)) (by first | (simp [results, Try.results32, go_sem, *, seqAdd, and_mask, wrap_mod]; done) | (simp [results, Try.results32, go_sem, *, seqAdd, and_mask, wrap_mod]; omega) | (simp [results, Try.results32, go_sem, *, seqAdd, and_mask, wrap_mod]; grind)) rfl ⟨by first | rfl | (simp [*]; done), ?_⟩)
  all_goals rfl
end Go.Proofs.Ytnmmhbhdcplfmaa
