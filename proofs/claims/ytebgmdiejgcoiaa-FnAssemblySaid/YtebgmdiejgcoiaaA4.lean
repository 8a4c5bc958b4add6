/- Contracts (A4). -/
import Derived.Test.YtebgmdiejgcoiaaA3
import Derived.Test.YtebgmdiejgcoiaaG1
namespace Go.Proofs.Ytebgmdiejgcoiaa
open Go.RowKit
attribute [local go_sem] dK dH dN dI cV cL cS cP cM cN cX cR cW cO cY cU cZ bv cell?_grow frozen?_grow bz cq bL
attribute [local go_sem] aL aT bO bN bi aJ aR bP bK bf cx dh af al aG aH
set_option linter.unusedVariables false
set_option linter.unusedSimpArgs false
theorem ahead_c (x f : Int) (w : World) : Calls Try.prog 43 #[.int .i64 x, .int .i64 f] w fun e w' => e = .returned (.int .i64 ((x - f) % 4294967296)) ∧ w = w' := by
  go_enter Try.func43, Try.ntmps43
  go_wp2
  all_goals (refine bodyPost_ret (v := .int .i64 ((x - f) % 4294967296)) (by first | (simp [results, Try.results43, go_sem, *, e9, ev]; done) | (simp [results, Try.results43, go_sem, *, e9, ev]; omega) | (simp [results, Try.results43, go_sem, *, e9, ev]; grind)) rfl ⟨by first | rfl | (simp [*]; done), ?_⟩)
  all_goals rfl
theorem sWindowOf_c (r_next : Int) (r_data : ByteArray) (r_held : List Pce) (r_held_v : Value) (r_fin : Int) (r_done : Bool) (w : World) (hsz : r_data.size ≤ 4611686018427387904) : Calls Try.prog 34 #[.agg #[.int .i64 r_next, .string r_data, r_held_v, .int .i64 r_fin, .bool r_done]] w fun e w' => e = .returned (.int .i64 (wO ⟨r_next, r_data, r_held, r_fin, r_done⟩)) ∧ Below w.heap.size w w' := by
  by_cases h : r_done = true
  all_goals
    go_enter Try.func34, Try.ntmps34
    go_wp2_with (first | (go_at_call 52; with_reducible refine (l1Min_c _ _ _).mono ?_; rintro e w1 ⟨rfl, rfl⟩) | (go_at_call 53; with_reducible refine (l1Max_c _ _ _).mono ?_; rintro e w1 ⟨rfl, rfl⟩))
    all_goals (refine bodyPost_ret (v := .int .i64 (wO ⟨r_next, r_data, r_held, r_fin, r_done⟩)) (by first | (simp [results, Try.results34, go_sem, *, wO]; done) | (simp [results, Try.results34, go_sem, *, wO]; omega) | (simp [results, Try.results34, go_sem, *, wO]; grind)) rfl ⟨by first | rfl | (simp [*]; done), ?_⟩)
    all_goals (repeat' (first | (with_reducible exact Below.refl _ _) | (with_reducible refine Below.alloc ?_ ?_ _) | (with_reducible refine belowGrow ?_ ?_ _ _) | (with_reducible refine Below.setCell ?_ ?_ _) | (with_reducible refine Below.drew ?_) | (with_reducible refine bdrewN ?_ _) | (with_reducible assumption) | (with_reducible refine bstep ?_ (by assumption) ?_) | (simp only [World.size_alloc, World.size_setCell, World.size_drew, World.heap_drewN, bv]; done) | (simp only [World.size_alloc, World.size_setCell, World.size_drew, World.heap_drewN, bv]; omega) | omega))
theorem iWindowOf_c (r_next : Int) (r_data : ByteArray) (r_held : List Pce) (r_held_v : Value) (r_fin : Int) (r_done : Bool) (w : World) (hsz : r_data.size ≤ 4611686018427387904) : Calls Try.prog 41 #[.agg #[.int .i64 r_next, .string r_data, r_held_v, .int .i64 r_fin, .bool r_done]] w fun e w' => e = .returned (.int .i64 (wO ⟨r_next, r_data, r_held, r_fin, r_done⟩)) ∧ Below w.heap.size w w' := by
  by_cases h : r_done = true
  all_goals
    go_enter Try.func41, Try.ntmps41
    go_wp2_with (first | (go_at_call 52; with_reducible refine (l1Min_c _ _ _).mono ?_; rintro e w1 ⟨rfl, rfl⟩) | (go_at_call 53; with_reducible refine (l1Max_c _ _ _).mono ?_; rintro e w1 ⟨rfl, rfl⟩))
    all_goals (refine bodyPost_ret (v := .int .i64 (wO ⟨r_next, r_data, r_held, r_fin, r_done⟩)) (by first | (simp [results, Try.results41, go_sem, *, wO]; done) | (simp [results, Try.results41, go_sem, *, wO]; omega) | (simp [results, Try.results41, go_sem, *, wO]; grind)) rfl ⟨by first | rfl | (simp [*]; done), ?_⟩)
    all_goals (repeat' (first | (with_reducible exact Below.refl _ _) | (with_reducible refine Below.alloc ?_ ?_ _) | (with_reducible refine belowGrow ?_ ?_ _ _) | (with_reducible refine Below.setCell ?_ ?_ _) | (with_reducible refine Below.drew ?_) | (with_reducible refine bdrewN ?_ _) | (with_reducible assumption) | (with_reducible refine bstep ?_ (by assumption) ?_) | (simp only [World.size_alloc, World.size_setCell, World.size_drew, World.heap_drewN, bv]; done) | (simp only [World.size_alloc, World.size_setCell, World.size_drew, World.heap_drewN, bv]; omega) | omega))
end Go.Proofs.Ytebgmdiejgcoiaa
