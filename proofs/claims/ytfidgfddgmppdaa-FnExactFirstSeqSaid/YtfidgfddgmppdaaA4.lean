/- Contracts (A4). -/
import Derived.Test.YtfidgfddgmppdaaA3
import Derived.Test.YtfidgfddgmppdaaG1
namespace Go.Proofs.Ytfidgfddgmppdaa
open Go.RowKit
attribute [local go_sem] cm cl ck cj bj bY bi bl bf bg bc ba bh bd bn bo bm a8 cell?_grow frozen?_grow aU bw b0
attribute [local go_sem] ae al b5 aC aK af ak aA aD aJ bv ct ap ar aa ab
set_option linter.unusedVariables false
set_option linter.unusedSimpArgs false
theorem toSender_c (a_una : Int) (a_data : ByteArray) (a_sent : Int) (a_fin : Bool) (a_finSent : Bool) (a_done : Bool) (w : World) : Calls Try.prog 124 #[.agg #[.int .i64 a_una, .string a_data, .int .i64 a_sent, .bool a_fin, .bool a_finSent, .bool a_done]] w fun e w' => e = .returned (.agg #[.int .i64 a_una, .string a_data, .int .i64 a_sent, .bool a_fin, .bool a_finSent, .bool a_done]) ∧ Below w.heap.size w w' := by
  go_enter Try.func124, Try.ntmps124
  go_wp2
  all_goals (refine bodyPost_ret (v := .agg #[.int .i64 a_una, .string a_data, .int .i64 a_sent, .bool a_fin, .bool a_finSent, .bool a_done]) (by first | (simp [results, Try.results124, go_sem, *]; done) | (simp [results, Try.results124, go_sem, *]; omega) | (simp [results, Try.results124, go_sem, *]; grind)) rfl ⟨by first | rfl | (simp [*]; done), ?_⟩)
  all_goals (repeat' (first | (with_reducible exact Below.refl _ _) | (with_reducible refine Below.alloc ?_ ?_ _) | (with_reducible refine au ?_ ?_ _ _) | (with_reducible refine Below.setCell ?_ ?_ _) | (with_reducible refine Below.drew ?_) | (with_reducible refine aT ?_ _) | (with_reducible assumption) | (with_reducible refine aF ?_ (by assumption) ?_) | (simp only [World.size_alloc, World.size_setCell, World.size_drew, World.heap_drewN, a8]; done) | (simp only [World.size_alloc, World.size_setCell, World.size_drew, World.heap_drewN, a8]; omega) | omega))
theorem eqSender_c (a_una : Int) (a_data : ByteArray) (a_sent : Int) (a_fin : Bool) (a_finSent : Bool) (a_done : Bool) (w : World) : Calls Try.prog 128 #[.agg #[.int .i64 a_una, .string a_data, .int .i64 a_sent, .bool a_fin, .bool a_finSent, .bool a_done], .agg #[.int .i64 a_una, .string a_data, .int .i64 a_sent, .bool a_fin, .bool a_finSent, .bool a_done]] w fun e w' => e = .returned (.bool true) ∧ Below w.heap.size w w' := by
  go_enter Try.func128, Try.ntmps128
  go_wp2
  all_goals (refine bodyPost_ret (v := .bool true) (by first | (simp [results, Try.results128, go_sem, *]; done) | (simp [results, Try.results128, go_sem, *]; omega) | (simp [results, Try.results128, go_sem, *]; grind)) rfl ⟨by first | rfl | (simp [*]; done), ?_⟩)
  all_goals (repeat' (first | (with_reducible exact Below.refl _ _) | (with_reducible refine Below.alloc ?_ ?_ _) | (with_reducible refine au ?_ ?_ _ _) | (with_reducible refine Below.setCell ?_ ?_ _) | (with_reducible refine Below.drew ?_) | (with_reducible refine aT ?_ _) | (with_reducible assumption) | (with_reducible refine aF ?_ (by assumption) ?_) | (simp only [World.size_alloc, World.size_setCell, World.size_drew, World.heap_drewN, a8]; done) | (simp only [World.size_alloc, World.size_setCell, World.size_drew, World.heap_drewN, a8]; omega) | omega))
end Go.Proofs.Ytfidgfddgmppdaa
