/- Contracts (A4). -/
import Derived.Test.YtomllckfbkiolaaA3
import Derived.Test.YtomllckfbkiolaaE
import Derived.Test.YtomllckfbkiolaaQ
namespace Go.Proofs.Ytomllckfbkiolaa
open Go.RowKit
attribute [local go_sem] lt_gap le_gap eq_gap gap_eq
set_option linter.unusedVariables false
set_option linter.unusedSimpArgs false

theorem toSender_c (a_una : Int) (a_data : ByteArray) (a_sent : Int) (a_fin : Bool) (a_finSent : Bool) (a_done : Bool) (w : World) : Calls Try.prog 74 #[.agg #[.int .i64 a_una, .string a_data, .int .i64 a_sent, .bool a_fin, .bool a_finSent, .bool a_done]] w fun e w' => e = .returned (.agg #[.int .i64 a_una, .string a_data, .int .i64 a_sent, .bool a_fin, .bool a_finSent, .bool a_done]) ∧ Below w.heap.size w w' := by
  go_enter Try.func74, Try.ntmps74
  go_wp2
  all_goals (refine bodyPost_ret (v := .agg #[.int .i64 a_una, .string a_data, .int .i64 a_sent, .bool a_fin, .bool a_finSent, .bool a_done]) (by first | (simp [results, Try.results74, go_sem, *]; done) | (simp [results, Try.results74, go_sem, *]; omega)) rfl ⟨rfl, ?_⟩)
  all_goals (repeat' (first | (with_reducible exact Below.refl _ _) | (with_reducible refine Below.alloc ?_ ?_ _) | (with_reducible refine Below.setCell ?_ ?_ _) | (with_reducible refine Below.drew ?_) | (with_reducible refine bdrewN ?_ _) | (with_reducible refine bstep ?_ (by assumption) ?_) | (simp only [World.size_alloc, World.size_setCell, World.size_drew, World.heap_drewN]; omega) | omega))
theorem eqSender_c (a_una : Int) (a_data : ByteArray) (a_sent : Int) (a_fin : Bool) (a_finSent : Bool) (a_done : Bool) (w : World) : Calls Try.prog 77 #[.agg #[.int .i64 a_una, .string a_data, .int .i64 a_sent, .bool a_fin, .bool a_finSent, .bool a_done], .agg #[.int .i64 a_una, .string a_data, .int .i64 a_sent, .bool a_fin, .bool a_finSent, .bool a_done]] w fun e w' => e = .returned (.bool true) ∧ Below w.heap.size w w' := by
  go_enter Try.func77, Try.ntmps77
  go_wp2
  all_goals (refine bodyPost_ret (v := .bool true) (by first | (simp [results, Try.results77, go_sem, *]; done) | (simp [results, Try.results77, go_sem, *]; omega)) rfl ⟨rfl, ?_⟩)
  all_goals (repeat' (first | (with_reducible exact Below.refl _ _) | (with_reducible refine Below.alloc ?_ ?_ _) | (with_reducible refine Below.setCell ?_ ?_ _) | (with_reducible refine Below.drew ?_) | (with_reducible refine bdrewN ?_ _) | (with_reducible refine bstep ?_ (by assumption) ?_) | (simp only [World.size_alloc, World.size_setCell, World.size_drew, World.heap_drewN]; omega) | omega))
end Go.Proofs.Ytomllckfbkiolaa
