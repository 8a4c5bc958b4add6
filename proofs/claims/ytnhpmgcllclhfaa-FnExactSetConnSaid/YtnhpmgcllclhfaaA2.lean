/- Contracts (A2). -/
import Derived.Test.YtnhpmgcllclhfaaA1
namespace Go.Proofs.Ytnhpmgcllclhfaa
open Go.RowKit
attribute [local go_sem] lt_gap le_gap eq_gap gap_eq lt_ones2 lt_ones3 lt_ones4 lt_ones5 lt_ones6 lt_ones7 lt_ones8 lt_gap_1 lt_gap_2 lt_gap_3 lt_gap_4 lt_gap_5 lt_gap_6 size_grow cell?_grow frozen?_grow setCell_grow drew_grow drewN_grow
attribute [local go_sem] boxOf_alloc_at boxOf_alloc_past boxOf_grow boxOf_drew boxOf_drewN isBox_alloc_at isBox_alloc_past isBox_grow isBox_drew isBox_drewN putAt_all putAt setCells_alloc_at setCells_alloc_past setCells_grow setCells_drew
set_option linter.unusedVariables false
set_option linter.unusedSimpArgs false

theorem toOptions_c (o_mss : Int) (o_scale : Int) (o_sack : Bool) (o_stamp : Bool) (o_val : Int) (o_echo : Int) (w : World) : Calls Try.prog 65 #[.agg #[.int .i64 o_mss, .int .i64 o_scale, .bool o_sack, .bool o_stamp, .int .i64 o_val, .int .i64 o_echo]] w fun e w' => e = .returned (.agg #[.int .i64 o_mss, .int .i64 o_scale, .bool o_sack, .bool o_stamp, .int .i64 o_val, .int .i64 o_echo]) ∧ Below w.heap.size w w' := by
  go_enter Try.func65, Try.ntmps65
  go_wp2
  all_goals (refine bodyPost_ret (v := .agg #[.int .i64 o_mss, .int .i64 o_scale, .bool o_sack, .bool o_stamp, .int .i64 o_val, .int .i64 o_echo]) (by first | (simp [results, Try.results65, go_sem, *]; done) | (simp [results, Try.results65, go_sem, *]; omega) | (simp [results, Try.results65, go_sem, *]; grind)) rfl ⟨by first | rfl | (simp [*]; done), ?_⟩)
  all_goals (repeat' (first | (with_reducible exact Below.refl _ _) | (with_reducible refine Below.alloc ?_ ?_ _) | (with_reducible refine belowGrow ?_ ?_ _ _) | (with_reducible refine Below.setCell ?_ ?_ _) | (with_reducible refine Below.drew ?_) | (with_reducible refine bdrewN ?_ _) | (with_reducible assumption) | (with_reducible refine bstep ?_ (by assumption) ?_) | (simp only [World.size_alloc, World.size_setCell, World.size_drew, World.heap_drewN, size_grow]; done) | (simp only [World.size_alloc, World.size_setCell, World.size_drew, World.heap_drewN, size_grow]; omega) | omega))
theorem eqOptions_c (o_mss : Int) (o_scale : Int) (o_sack : Bool) (o_stamp : Bool) (o_val : Int) (o_echo : Int) (w : World) : Calls Try.prog 69 #[.agg #[.int .i64 o_mss, .int .i64 o_scale, .bool o_sack, .bool o_stamp, .int .i64 o_val, .int .i64 o_echo], .agg #[.int .i64 o_mss, .int .i64 o_scale, .bool o_sack, .bool o_stamp, .int .i64 o_val, .int .i64 o_echo]] w fun e w' => e = .returned (.bool true) ∧ Below w.heap.size w w' := by
  go_enter Try.func69, Try.ntmps69
  go_wp2
  all_goals (refine bodyPost_ret (v := .bool true) (by first | (simp [results, Try.results69, go_sem, *]; done) | (simp [results, Try.results69, go_sem, *]; omega) | (simp [results, Try.results69, go_sem, *]; grind)) rfl ⟨by first | rfl | (simp [*]; done), ?_⟩)
  all_goals (repeat' (first | (with_reducible exact Below.refl _ _) | (with_reducible refine Below.alloc ?_ ?_ _) | (with_reducible refine belowGrow ?_ ?_ _ _) | (with_reducible refine Below.setCell ?_ ?_ _) | (with_reducible refine Below.drew ?_) | (with_reducible refine bdrewN ?_ _) | (with_reducible assumption) | (with_reducible refine bstep ?_ (by assumption) ?_) | (simp only [World.size_alloc, World.size_setCell, World.size_drew, World.heap_drewN, size_grow]; done) | (simp only [World.size_alloc, World.size_setCell, World.size_drew, World.heap_drewN, size_grow]; omega) | omega))
theorem toTuple_c (t_ip : Int) (t_port : Int) (t_my : Int) (w : World) : Calls Try.prog 13 #[.agg #[.int .i64 t_ip, .int .i64 t_port, .int .i64 t_my]] w fun e w' => e = .returned (.agg #[.int .i64 t_ip, .int .i64 t_port, .int .i64 t_my]) ∧ Below w.heap.size w w' := by
  go_enter Try.func13, Try.ntmps13
  go_wp2
  all_goals (refine bodyPost_ret (v := .agg #[.int .i64 t_ip, .int .i64 t_port, .int .i64 t_my]) (by first | (simp [results, Try.results13, go_sem, *]; done) | (simp [results, Try.results13, go_sem, *]; omega) | (simp [results, Try.results13, go_sem, *]; grind)) rfl ⟨by first | rfl | (simp [*]; done), ?_⟩)
  all_goals (repeat' (first | (with_reducible exact Below.refl _ _) | (with_reducible refine Below.alloc ?_ ?_ _) | (with_reducible refine belowGrow ?_ ?_ _ _) | (with_reducible refine Below.setCell ?_ ?_ _) | (with_reducible refine Below.drew ?_) | (with_reducible refine bdrewN ?_ _) | (with_reducible assumption) | (with_reducible refine bstep ?_ (by assumption) ?_) | (simp only [World.size_alloc, World.size_setCell, World.size_drew, World.heap_drewN, size_grow]; done) | (simp only [World.size_alloc, World.size_setCell, World.size_drew, World.heap_drewN, size_grow]; omega) | omega))
theorem eqTuple_c (t_ip : Int) (t_port : Int) (t_my : Int) (w : World) : Calls Try.prog 23 #[.agg #[.int .i64 t_ip, .int .i64 t_port, .int .i64 t_my], .agg #[.int .i64 t_ip, .int .i64 t_port, .int .i64 t_my]] w fun e w' => e = .returned (.bool true) ∧ Below w.heap.size w w' := by
  go_enter Try.func23, Try.ntmps23
  go_wp2
  all_goals (refine bodyPost_ret (v := .bool true) (by first | (simp [results, Try.results23, go_sem, *]; done) | (simp [results, Try.results23, go_sem, *]; omega) | (simp [results, Try.results23, go_sem, *]; grind)) rfl ⟨by first | rfl | (simp [*]; done), ?_⟩)
  all_goals (repeat' (first | (with_reducible exact Below.refl _ _) | (with_reducible refine Below.alloc ?_ ?_ _) | (with_reducible refine belowGrow ?_ ?_ _ _) | (with_reducible refine Below.setCell ?_ ?_ _) | (with_reducible refine Below.drew ?_) | (with_reducible refine bdrewN ?_ _) | (with_reducible assumption) | (with_reducible refine bstep ?_ (by assumption) ?_) | (simp only [World.size_alloc, World.size_setCell, World.size_drew, World.heap_drewN, size_grow]; done) | (simp only [World.size_alloc, World.size_setCell, World.size_drew, World.heap_drewN, size_grow]; omega) | omega))
end Go.Proofs.Ytnhpmgcllclhfaa
