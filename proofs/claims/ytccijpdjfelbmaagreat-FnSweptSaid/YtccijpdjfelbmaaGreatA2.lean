/- Contracts (A2). -/
import Derived.Test.YtccijpdjfelbmaaGreatA1
namespace Go.Proofs.YtccijpdjfelbmaaGreat
open Go.RowKit
attribute [local go_sem] gq gu fB fH ek eo et er ei eh ef es ej ec ed eu el aC cell?_grow frozen?_grow cV dO dh
attribute [local go_sem] ci bB dp dk dz cl c5 di dj d8 dN fY bV bl ce cg
set_option linter.unusedVariables false
set_option linter.unusedSimpArgs false
theorem eC  (w : World) : Calls Tryz.prog 94 #[] w fun e w' => e = .returned (.agg #[.int .i64 0, .int .i64 (-1), .bool false, .bool false, .int .i64 0, .int .i64 0]) ∧ Below w.heap.size w w' := by
  go_enter Tryz.func94, Tryz.ntmps94
  go_wp2
  all_goals (refine bodyPost_ret (v := .agg #[.int .i64 0, .int .i64 (-1), .bool false, .bool false, .int .i64 0, .int .i64 0]) (by first | (simp [results, Tryz.results94, go_sem, *]; done) | (simp [results, Tryz.results94, go_sem, *]; omega) | (simp [results, Tryz.results94, go_sem, *]; grind)) rfl ⟨by first | rfl | (simp [*]; done), ?_⟩)
  all_goals (repeat' (first | (with_reducible exact Below.refl _ _) | (with_reducible refine Below.alloc ?_ ?_ _) | (with_reducible refine dJ ?_ ?_ _ _) | (with_reducible refine Below.setCell ?_ ?_ _) | (with_reducible refine Below.drew ?_) | (with_reducible refine gx ?_ _) | (with_reducible assumption) | (with_reducible refine bstep ?_ (by assumption) ?_) | (simp only [World.size_alloc, World.size_setCell, World.size_drew, World.heap_drewN, aC]; done) | (simp only [World.size_alloc, World.size_setCell, World.size_drew, World.heap_drewN, aC]; omega) | omega))
theorem sTupleOk_c (t_ip : Int) (t_port : Int) (t_my : Int) (w : World) : Calls Tryz.prog 64 #[.agg #[.int .i64 t_ip, .int .i64 t_port, .int .i64 t_my]] w fun e w' => e = .returned (.bool (eD ⟨t_ip, t_port, t_my⟩)) ∧ Below w.heap.size w w' := by
  go_enter Tryz.func64, Tryz.ntmps64
  go_wp2_with (first | (go_at_call 91; with_reducible refine (eI _ _).mono ?_; rintro e w1 ⟨rfl, rfl⟩) | (go_at_call 91; with_reducible refine (dF _ _).mono ?_; rintro e w1 ⟨rfl, rfl⟩) | (go_at_call 91; with_reducible refine (gD _ _).mono ?_; rintro e w1 ⟨rfl, rfl⟩))
  all_goals (refine bodyPost_ret (v := .bool (eD ⟨t_ip, t_port, t_my⟩)) (by first | (simp [results, Tryz.results64, go_sem, *, eD]; done) | (simp [results, Tryz.results64, go_sem, *, eD]; omega) | (simp [results, Tryz.results64, go_sem, *, eD]; grind)) rfl ⟨by first | rfl | (simp [*]; done), ?_⟩)
  all_goals (repeat' (first | (with_reducible exact Below.refl _ _) | (with_reducible refine Below.alloc ?_ ?_ _) | (with_reducible refine dJ ?_ ?_ _ _) | (with_reducible refine Below.setCell ?_ ?_ _) | (with_reducible refine Below.drew ?_) | (with_reducible refine gx ?_ _) | (with_reducible assumption) | (with_reducible refine bstep ?_ (by assumption) ?_) | (simp only [World.size_alloc, World.size_setCell, World.size_drew, World.heap_drewN, aC]; done) | (simp only [World.size_alloc, World.size_setCell, World.size_drew, World.heap_drewN, aC]; omega) | omega))
theorem gT (o_mss : Int) (o_scale : Int) (o_sack : Bool) (o_stamp : Bool) (o_val : Int) (o_echo : Int) (w : World) : Calls Tryz.prog 67 #[.agg #[.int .i64 o_mss, .int .i64 o_scale, .bool o_sack, .bool o_stamp, .int .i64 o_val, .int .i64 o_echo]] w fun e w' => e = .returned (.bool (c7 ⟨o_mss, o_scale, o_sack, o_stamp, o_val, o_echo⟩)) ∧ Below w.heap.size w w' := by
  by_cases h1 : o_stamp = true <;> by_cases h2 : o_val = 0 <;> by_cases h3 : o_echo = 0
  all_goals
    go_enter Tryz.func67, Tryz.ntmps67
    go_wp2_with (first | (go_at_call 91; with_reducible refine (eI _ _).mono ?_; rintro e w1 ⟨rfl, rfl⟩) | (go_at_call 91; with_reducible refine (dF _ _).mono ?_; rintro e w1 ⟨rfl, rfl⟩) | (go_at_call 91; with_reducible refine (gD _ _).mono ?_; rintro e w1 ⟨rfl, rfl⟩) | (go_at_call 63; with_reducible refine (dA _ _ _ _).mono ?_; rintro e w1 ⟨rfl, rfl⟩))
    all_goals (refine bodyPost_ret (v := .bool (c7 ⟨o_mss, o_scale, o_sack, o_stamp, o_val, o_echo⟩)) (by first | (simp [results, Tryz.results67, go_sem, *, c7]; done) | (simp [results, Tryz.results67, go_sem, *, c7]; omega) | (simp [results, Tryz.results67, go_sem, *, c7]; grind)) rfl ⟨by first | rfl | (simp [*]; done), ?_⟩)
    all_goals (repeat' (first | (with_reducible exact Below.refl _ _) | (with_reducible refine Below.alloc ?_ ?_ _) | (with_reducible refine dJ ?_ ?_ _ _) | (with_reducible refine Below.setCell ?_ ?_ _) | (with_reducible refine Below.drew ?_) | (with_reducible refine gx ?_ _) | (with_reducible assumption) | (with_reducible refine bstep ?_ (by assumption) ?_) | (simp only [World.size_alloc, World.size_setCell, World.size_drew, World.heap_drewN, aC]; done) | (simp only [World.size_alloc, World.size_setCell, World.size_drew, World.heap_drewN, aC]; omega) | omega))
end Go.Proofs.YtccijpdjfelbmaaGreat
