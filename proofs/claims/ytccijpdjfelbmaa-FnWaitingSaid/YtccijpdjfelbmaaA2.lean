/- Contracts (A2). -/
import Derived.Test.YtccijpdjfelbmaaA1
namespace Go.Proofs.Ytccijpdjfelbmaa
open Go.RowKit
attribute [local go_sem] fZ fM fN fL ew er eu ez es ev ey e0 dA dC e5 dB e8 aJ cell?_grow frozen?_grow cg dX dq
attribute [local go_sem] c8 bK dr dv cC c9 bM dy dx cA dc fx bh bt cx cu
set_option linter.unusedVariables false
set_option linter.unusedSimpArgs false
theorem eQ  (w : World) : Calls Try.prog 53 #[] w fun e w' => e = .returned (.agg #[.int .i64 0, .int .i64 (-1), .bool false, .bool false, .int .i64 0, .int .i64 0]) ∧ Below w.heap.size w w' := by
  go_enter Try.func53, Try.ntmps53
  go_wp2
  all_goals (refine bodyPost_ret (v := .agg #[.int .i64 0, .int .i64 (-1), .bool false, .bool false, .int .i64 0, .int .i64 0]) (by first | (simp [results, Try.results53, go_sem, *]; done) | (simp [results, Try.results53, go_sem, *]; omega) | (simp [results, Try.results53, go_sem, *]; grind)) rfl ⟨by first | rfl | (simp [*]; done), ?_⟩)
  all_goals (repeat' (first | (with_reducible exact Below.refl _ _) | (with_reducible refine Below.alloc ?_ ?_ _) | (with_reducible refine dW ?_ ?_ _ _) | (with_reducible refine Below.setCell ?_ ?_ _) | (with_reducible refine Below.drew ?_) | (with_reducible refine fU ?_ _) | (with_reducible assumption) | (with_reducible refine bstep ?_ (by assumption) ?_) | (simp only [World.size_alloc, World.size_setCell, World.size_drew, World.heap_drewN, aJ]; done) | (simp only [World.size_alloc, World.size_setCell, World.size_drew, World.heap_drewN, aJ]; omega) | omega))
theorem sTupleOk_c (t_ip : Int) (t_port : Int) (t_my : Int) (w : World) : Calls Try.prog 84 #[.agg #[.int .i64 t_ip, .int .i64 t_port, .int .i64 t_my]] w fun e w' => e = .returned (.bool (eR ⟨t_ip, t_port, t_my⟩)) ∧ Below w.heap.size w w' := by
  go_enter Try.func84, Try.ntmps84
  go_wp2_with (first | (go_at_call 54; with_reducible refine (eW _ _).mono ?_; rintro e w1 ⟨rfl, rfl⟩) | (go_at_call 54; with_reducible refine (dQ _ _).mono ?_; rintro e w1 ⟨rfl, rfl⟩) | (go_at_call 54; with_reducible refine (gm _ _).mono ?_; rintro e w1 ⟨rfl, rfl⟩))
  all_goals (refine bodyPost_ret (v := .bool (eR ⟨t_ip, t_port, t_my⟩)) (by first | (simp [results, Try.results84, go_sem, *, eR]; done) | (simp [results, Try.results84, go_sem, *, eR]; omega) | (simp [results, Try.results84, go_sem, *, eR]; grind)) rfl ⟨by first | rfl | (simp [*]; done), ?_⟩)
  all_goals (repeat' (first | (with_reducible exact Below.refl _ _) | (with_reducible refine Below.alloc ?_ ?_ _) | (with_reducible refine dW ?_ ?_ _ _) | (with_reducible refine Below.setCell ?_ ?_ _) | (with_reducible refine Below.drew ?_) | (with_reducible refine fU ?_ _) | (with_reducible assumption) | (with_reducible refine bstep ?_ (by assumption) ?_) | (simp only [World.size_alloc, World.size_setCell, World.size_drew, World.heap_drewN, aJ]; done) | (simp only [World.size_alloc, World.size_setCell, World.size_drew, World.heap_drewN, aJ]; omega) | omega))
theorem ge (o_mss : Int) (o_scale : Int) (o_sack : Bool) (o_stamp : Bool) (o_val : Int) (o_echo : Int) (w : World) : Calls Try.prog 52 #[.agg #[.int .i64 o_mss, .int .i64 o_scale, .bool o_sack, .bool o_stamp, .int .i64 o_val, .int .i64 o_echo]] w fun e w' => e = .returned (.bool (bL ⟨o_mss, o_scale, o_sack, o_stamp, o_val, o_echo⟩)) ∧ Below w.heap.size w w' := by
  by_cases h1 : o_stamp = true <;> by_cases h2 : o_val = 0 <;> by_cases h3 : o_echo = 0
  all_goals
    go_enter Try.func52, Try.ntmps52
    go_wp2_with (first | (go_at_call 54; with_reducible refine (eW _ _).mono ?_; rintro e w1 ⟨rfl, rfl⟩) | (go_at_call 54; with_reducible refine (dQ _ _).mono ?_; rintro e w1 ⟨rfl, rfl⟩) | (go_at_call 54; with_reducible refine (gm _ _).mono ?_; rintro e w1 ⟨rfl, rfl⟩) | (go_at_call 83; with_reducible refine (dP _ _ _ _).mono ?_; rintro e w1 ⟨rfl, rfl⟩))
    all_goals (refine bodyPost_ret (v := .bool (bL ⟨o_mss, o_scale, o_sack, o_stamp, o_val, o_echo⟩)) (by first | (simp [results, Try.results52, go_sem, *, bL]; done) | (simp [results, Try.results52, go_sem, *, bL]; omega) | (simp [results, Try.results52, go_sem, *, bL]; grind)) rfl ⟨by first | rfl | (simp [*]; done), ?_⟩)
    all_goals (repeat' (first | (with_reducible exact Below.refl _ _) | (with_reducible refine Below.alloc ?_ ?_ _) | (with_reducible refine dW ?_ ?_ _ _) | (with_reducible refine Below.setCell ?_ ?_ _) | (with_reducible refine Below.drew ?_) | (with_reducible refine fU ?_ _) | (with_reducible assumption) | (with_reducible refine bstep ?_ (by assumption) ?_) | (simp only [World.size_alloc, World.size_setCell, World.size_drew, World.heap_drewN, aJ]; done) | (simp only [World.size_alloc, World.size_setCell, World.size_drew, World.heap_drewN, aJ]; omega) | omega))
end Go.Proofs.Ytccijpdjfelbmaa
