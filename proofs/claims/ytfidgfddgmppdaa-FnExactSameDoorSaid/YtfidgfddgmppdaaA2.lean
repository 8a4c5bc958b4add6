/- Contracts (A2). -/
import Derived.Test.YtfidgfddgmppdaaA1
namespace Go.Proofs.Ytfidgfddgmppdaa
open Go.RowKit
attribute [local go_sem] bA cz bC bB bp bt b9 bo b7 b6 bq bz bx bv bw br b8 a6 cell?_grow frozen?_grow af aF aN
attribute [local go_sem] ak ao aO aM aY aj ap aQ aP aX aE bG aq aw ah ai
set_option linter.unusedVariables false
set_option linter.unusedSimpArgs false
theorem toOptions_c (o_mss : Int) (o_scale : Int) (o_sack : Bool) (o_stamp : Bool) (o_val : Int) (o_echo : Int) (w : World) : Calls Try.prog 38 #[.agg #[.int .i64 o_mss, .int .i64 o_scale, .bool o_sack, .bool o_stamp, .int .i64 o_val, .int .i64 o_echo]] w fun e w' => e = .returned (.agg #[.int .i64 o_mss, .int .i64 o_scale, .bool o_sack, .bool o_stamp, .int .i64 o_val, .int .i64 o_echo]) ∧ Below w.heap.size w w' := by
  go_enter Try.func38, Try.ntmps38
  go_wp2
  all_goals (refine bodyPost_ret (v := .agg #[.int .i64 o_mss, .int .i64 o_scale, .bool o_sack, .bool o_stamp, .int .i64 o_val, .int .i64 o_echo]) (by first | (simp [results, Try.results38, go_sem, *]; done) | (simp [results, Try.results38, go_sem, *]; omega) | (simp [results, Try.results38, go_sem, *]; grind)) rfl ⟨by first | rfl | (simp [*]; done), ?_⟩)
  all_goals (repeat' (first | (with_reducible exact Below.refl _ _) | (with_reducible refine Below.alloc ?_ ?_ _) | (with_reducible refine ax ?_ ?_ _ _) | (with_reducible refine Below.setCell ?_ ?_ _) | (with_reducible refine Below.drew ?_) | (with_reducible refine ae ?_ _) | (with_reducible assumption) | (with_reducible refine aT ?_ (by assumption) ?_) | (simp only [World.size_alloc, World.size_setCell, World.size_drew, World.heap_drewN, a6]; done) | (simp only [World.size_alloc, World.size_setCell, World.size_drew, World.heap_drewN, a6]; omega) | omega))
theorem eqOptions_c (o_mss : Int) (o_scale : Int) (o_sack : Bool) (o_stamp : Bool) (o_val : Int) (o_echo : Int) (w : World) : Calls Try.prog 106 #[.agg #[.int .i64 o_mss, .int .i64 o_scale, .bool o_sack, .bool o_stamp, .int .i64 o_val, .int .i64 o_echo], .agg #[.int .i64 o_mss, .int .i64 o_scale, .bool o_sack, .bool o_stamp, .int .i64 o_val, .int .i64 o_echo]] w fun e w' => e = .returned (.bool true) ∧ Below w.heap.size w w' := by
  go_enter Try.func106, Try.ntmps106
  go_wp2
  all_goals (refine bodyPost_ret (v := .bool true) (by first | (simp [results, Try.results106, go_sem, *]; done) | (simp [results, Try.results106, go_sem, *]; omega) | (simp [results, Try.results106, go_sem, *]; grind)) rfl ⟨by first | rfl | (simp [*]; done), ?_⟩)
  all_goals (repeat' (first | (with_reducible exact Below.refl _ _) | (with_reducible refine Below.alloc ?_ ?_ _) | (with_reducible refine ax ?_ ?_ _ _) | (with_reducible refine Below.setCell ?_ ?_ _) | (with_reducible refine Below.drew ?_) | (with_reducible refine ae ?_ _) | (with_reducible assumption) | (with_reducible refine aT ?_ (by assumption) ?_) | (simp only [World.size_alloc, World.size_setCell, World.size_drew, World.heap_drewN, a6]; done) | (simp only [World.size_alloc, World.size_setCell, World.size_drew, World.heap_drewN, a6]; omega) | omega))
theorem toTuple_c (t_ip : Int) (t_port : Int) (t_my : Int) (w : World) : Calls Try.prog 13 #[.agg #[.int .i64 t_ip, .int .i64 t_port, .int .i64 t_my]] w fun e w' => e = .returned (.agg #[.int .i64 t_ip, .int .i64 t_port, .int .i64 t_my]) ∧ Below w.heap.size w w' := by
  go_enter Try.func13, Try.ntmps13
  go_wp2
  all_goals (refine bodyPost_ret (v := .agg #[.int .i64 t_ip, .int .i64 t_port, .int .i64 t_my]) (by first | (simp [results, Try.results13, go_sem, *]; done) | (simp [results, Try.results13, go_sem, *]; omega) | (simp [results, Try.results13, go_sem, *]; grind)) rfl ⟨by first | rfl | (simp [*]; done), ?_⟩)
  all_goals (repeat' (first | (with_reducible exact Below.refl _ _) | (with_reducible refine Below.alloc ?_ ?_ _) | (with_reducible refine ax ?_ ?_ _ _) | (with_reducible refine Below.setCell ?_ ?_ _) | (with_reducible refine Below.drew ?_) | (with_reducible refine ae ?_ _) | (with_reducible assumption) | (with_reducible refine aT ?_ (by assumption) ?_) | (simp only [World.size_alloc, World.size_setCell, World.size_drew, World.heap_drewN, a6]; done) | (simp only [World.size_alloc, World.size_setCell, World.size_drew, World.heap_drewN, a6]; omega) | omega))
theorem eqTuple_c (t_ip : Int) (t_port : Int) (t_my : Int) (w : World) : Calls Try.prog 105 #[.agg #[.int .i64 t_ip, .int .i64 t_port, .int .i64 t_my], .agg #[.int .i64 t_ip, .int .i64 t_port, .int .i64 t_my]] w fun e w' => e = .returned (.bool true) ∧ Below w.heap.size w w' := by
  go_enter Try.func105, Try.ntmps105
  go_wp2
  all_goals (refine bodyPost_ret (v := .bool true) (by first | (simp [results, Try.results105, go_sem, *]; done) | (simp [results, Try.results105, go_sem, *]; omega) | (simp [results, Try.results105, go_sem, *]; grind)) rfl ⟨by first | rfl | (simp [*]; done), ?_⟩)
  all_goals (repeat' (first | (with_reducible exact Below.refl _ _) | (with_reducible refine Below.alloc ?_ ?_ _) | (with_reducible refine ax ?_ ?_ _ _) | (with_reducible refine Below.setCell ?_ ?_ _) | (with_reducible refine Below.drew ?_) | (with_reducible refine ae ?_ _) | (with_reducible assumption) | (with_reducible refine aT ?_ (by assumption) ?_) | (simp only [World.size_alloc, World.size_setCell, World.size_drew, World.heap_drewN, a6]; done) | (simp only [World.size_alloc, World.size_setCell, World.size_drew, World.heap_drewN, a6]; omega) | omega))
end Go.Proofs.Ytfidgfddgmppdaa
