/- Contracts (A4). -/
import Derived.Test.YtfidgfddgmppdaaA3
import Derived.Test.YtfidgfddgmppdaaG1
namespace Go.Proofs.Ytfidgfddgmppdaa
open Go.RowKit
attribute [local go_sem] bA cz bC bB bp bt b9 bo b7 b6 bq bz bx bv bw br b8 a6 cell?_grow frozen?_grow af aF aN
attribute [local go_sem] ak ao aO aM aY aj ap aQ aP aX aE bG aq aw ah ai
set_option linter.unusedVariables false
set_option linter.unusedSimpArgs false
theorem toSender_c (a_una : Int) (a_data : ByteArray) (a_sent : Int) (a_fin : Bool) (a_finSent : Bool) (a_done : Bool) (w : World) : Calls Try.prog 124 #[.agg #[.int .i64 a_una, .string a_data, .int .i64 a_sent, .bool a_fin, .bool a_finSent, .bool a_done]] w fun e w' => e = .returned (.agg #[.int .i64 a_una, .string a_data, .int .i64 a_sent, .bool a_fin, .bool a_finSent, .bool a_done]) ∧ Below w.heap.size w w' := by
  go_enter Try.func124, Try.ntmps124
  go_wp2
  all_goals (refine bodyPost_ret (v := .agg #[.int .i64 a_una, .string a_data, .int .i64 a_sent, .bool a_fin, .bool a_finSent, .bool a_done]) (by first | (simp [results, Try.results124, go_sem, *]; done) | (simp [results, Try.results124, go_sem, *]; omega) | (simp [results, Try.results124, go_sem, *]; grind)) rfl ⟨by first | rfl | (simp [*]; done), ?_⟩)
  all_goals (repeat' (first | (with_reducible exact Below.refl _ _) | (with_reducible refine Below.alloc ?_ ?_ _) | (with_reducible refine ax ?_ ?_ _ _) | (with_reducible refine Below.setCell ?_ ?_ _) | (with_reducible refine Below.drew ?_) | (with_reducible refine ae ?_ _) | (with_reducible assumption) | (with_reducible refine aT ?_ (by assumption) ?_) | (simp only [World.size_alloc, World.size_setCell, World.size_drew, World.heap_drewN, a6]; done) | (simp only [World.size_alloc, World.size_setCell, World.size_drew, World.heap_drewN, a6]; omega) | omega))
theorem eqSender_c (a_una : Int) (a_data : ByteArray) (a_sent : Int) (a_fin : Bool) (a_finSent : Bool) (a_done : Bool) (w : World) : Calls Try.prog 128 #[.agg #[.int .i64 a_una, .string a_data, .int .i64 a_sent, .bool a_fin, .bool a_finSent, .bool a_done], .agg #[.int .i64 a_una, .string a_data, .int .i64 a_sent, .bool a_fin, .bool a_finSent, .bool a_done]] w fun e w' => e = .returned (.bool true) ∧ Below w.heap.size w w' := by
  go_enter Try.func128, Try.ntmps128
  go_wp2
  all_goals (refine bodyPost_ret (v := .bool true) (by first | (simp [results, Try.results128, go_sem, *]; done) | (simp [results, Try.results128, go_sem, *]; omega) | (simp [results, Try.results128, go_sem, *]; grind)) rfl ⟨by first | rfl | (simp [*]; done), ?_⟩)
  all_goals (repeat' (first | (with_reducible exact Below.refl _ _) | (with_reducible refine Below.alloc ?_ ?_ _) | (with_reducible refine ax ?_ ?_ _ _) | (with_reducible refine Below.setCell ?_ ?_ _) | (with_reducible refine Below.drew ?_) | (with_reducible refine ae ?_ _) | (with_reducible assumption) | (with_reducible refine aT ?_ (by assumption) ?_) | (simp only [World.size_alloc, World.size_setCell, World.size_drew, World.heap_drewN, a6]; done) | (simp only [World.size_alloc, World.size_setCell, World.size_drew, World.heap_drewN, a6]; omega) | omega))
end Go.Proofs.Ytfidgfddgmppdaa
