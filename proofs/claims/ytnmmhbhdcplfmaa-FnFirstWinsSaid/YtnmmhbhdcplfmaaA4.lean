/- Contracts (A4). -/
import Derived.Test.YtnmmhbhdcplfmaaA3
import Derived.Test.YtnmmhbhdcplfmaaG1
namespace Go.Proofs.Ytnmmhbhdcplfmaa
open Go.RowKit
attribute [local go_sem] lt_gap le_gap eq_gap gap_eq lt_ones2 lt_ones3 lt_ones4 lt_ones5 lt_ones6 lt_ones7 lt_ones8 lt_gap_1 lt_gap_2 lt_gap_3 lt_gap_4 lt_gap_5 lt_gap_6 size_grow cell?_grow frozen?_grow setCell_grow drew_grow drewN_grow
attribute [local go_sem] boxOf_alloc_at boxOf_alloc_past boxOf_grow boxOf_drew boxOf_drewN isBox_alloc_at isBox_alloc_past isBox_grow isBox_drew isBox_drewN putAt_all putAt setCells_alloc_at setCells_alloc_past setCells_grow setCells_drew
set_option linter.unusedVariables false
set_option linter.unusedSimpArgs false

theorem ahead_c (x f : Int) (w : World) : Calls Try.prog 66 #[.int .i64 x, .int .i64 f] w fun e w' => e = .returned (.int .i64 ((x - f) % 4294967296)) ∧ w = w' := by
  go_enter Try.func66, Try.ntmps66
  go_wp2
  all_goals (refine bodyPost_ret (v := .int .i64 ((x - f) % 4294967296)) (by first | (simp [results, Try.results66, go_sem, *, and_mask, wrap_mod]; done) | (simp [results, Try.results66, go_sem, *, and_mask, wrap_mod]; omega) | (simp [results, Try.results66, go_sem, *, and_mask, wrap_mod]; grind)) rfl ⟨by first | rfl | (simp [*]; done), ?_⟩)
  all_goals rfl
theorem sWindowOf_c (r_next : Int) (r_data : ByteArray) (r_held : List Pce) (r_held_v : Value) (r_fin : Int) (r_done : Bool) (w : World) (hsz : r_data.size ≤ 4611686018427387904) : Calls Try.prog 25 #[.agg #[.int .i64 r_next, .string r_data, r_held_v, .int .i64 r_fin, .bool r_done]] w fun e w' => e = .returned (.int .i64 (windowOf ⟨r_next, r_data, r_held, r_fin, r_done⟩)) ∧ Below w.heap.size w w' := by
  by_cases h : r_done = true
  all_goals
    go_enter Try.func25, Try.ntmps25
    go_wp2_with (first | (go_at_call 39; with_reducible refine (l1Min_c _ _ _).mono ?_; rintro e w1 ⟨rfl, rfl⟩) | (go_at_call 38; with_reducible refine (l1Max_c _ _ _).mono ?_; rintro e w1 ⟨rfl, rfl⟩))
    all_goals (refine bodyPost_ret (v := .int .i64 (windowOf ⟨r_next, r_data, r_held, r_fin, r_done⟩)) (by first | (simp [results, Try.results25, go_sem, *, windowOf]; done) | (simp [results, Try.results25, go_sem, *, windowOf]; omega) | (simp [results, Try.results25, go_sem, *, windowOf]; grind)) rfl ⟨by first | rfl | (simp [*]; done), ?_⟩)
    all_goals (repeat' (first | (with_reducible exact Below.refl _ _) | (with_reducible refine Below.alloc ?_ ?_ _) | (with_reducible refine belowGrow ?_ ?_ _ _) | (with_reducible refine Below.setCell ?_ ?_ _) | (with_reducible refine Below.drew ?_) | (with_reducible refine bdrewN ?_ _) | (with_reducible assumption) | (with_reducible refine bstep ?_ (by assumption) ?_) | (simp only [World.size_alloc, World.size_setCell, World.size_drew, World.heap_drewN, size_grow]; done) | (simp only [World.size_alloc, World.size_setCell, World.size_drew, World.heap_drewN, size_grow]; omega) | omega))
theorem iWindowOf_c (r_next : Int) (r_data : ByteArray) (r_held : List Pce) (r_held_v : Value) (r_fin : Int) (r_done : Bool) (w : World) (hsz : r_data.size ≤ 4611686018427387904) : Calls Try.prog 15 #[.agg #[.int .i64 r_next, .string r_data, r_held_v, .int .i64 r_fin, .bool r_done]] w fun e w' => e = .returned (.int .i64 (windowOf ⟨r_next, r_data, r_held, r_fin, r_done⟩)) ∧ Below w.heap.size w w' := by
  by_cases h : r_done = true
  all_goals
    go_enter Try.func15, Try.ntmps15
    go_wp2_with (first | (go_at_call 39; with_reducible refine (l1Min_c _ _ _).mono ?_; rintro e w1 ⟨rfl, rfl⟩) | (go_at_call 38; with_reducible refine (l1Max_c _ _ _).mono ?_; rintro e w1 ⟨rfl, rfl⟩))
    all_goals (refine bodyPost_ret (v := .int .i64 (windowOf ⟨r_next, r_data, r_held, r_fin, r_done⟩)) (by first | (simp [results, Try.results15, go_sem, *, windowOf]; done) | (simp [results, Try.results15, go_sem, *, windowOf]; omega) | (simp [results, Try.results15, go_sem, *, windowOf]; grind)) rfl ⟨by first | rfl | (simp [*]; done), ?_⟩)
    all_goals (repeat' (first | (with_reducible exact Below.refl _ _) | (with_reducible refine Below.alloc ?_ ?_ _) | (with_reducible refine belowGrow ?_ ?_ _ _) | (with_reducible refine Below.setCell ?_ ?_ _) | (with_reducible refine Below.drew ?_) | (with_reducible refine bdrewN ?_ _) | (with_reducible assumption) | (with_reducible refine bstep ?_ (by assumption) ?_) | (simp only [World.size_alloc, World.size_setCell, World.size_drew, World.heap_drewN, size_grow]; done) | (simp only [World.size_alloc, World.size_setCell, World.size_drew, World.heap_drewN, size_grow]; omega) | omega))
end Go.Proofs.Ytnmmhbhdcplfmaa
