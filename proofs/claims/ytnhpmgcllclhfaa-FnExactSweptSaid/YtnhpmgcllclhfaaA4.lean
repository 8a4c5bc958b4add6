/- Contracts (A4). -/
import Derived.Test.YtnhpmgcllclhfaaA3
import Derived.Test.YtnhpmgcllclhfaaG1
namespace Go.Proofs.Ytnhpmgcllclhfaa
open Go.RowKit
attribute [local go_sem] dt dr du dv cz cr cq cv cu co cy cn ct cm bA cw cx a9 cell?_grow frozen?_grow aH bO bg
attribute [local go_sem] aN aW bh bf bt aO aX ba bc bv bN cM ai am aM aL
set_option linter.unusedVariables false
set_option linter.unusedSimpArgs false
theorem toSender_c (a_una : Int) (a_data : ByteArray) (a_sent : Int) (a_fin : Bool) (a_finSent : Bool) (a_done : Bool) (w : World) : Calls Try.prog 63 #[.agg #[.int .i64 a_una, .string a_data, .int .i64 a_sent, .bool a_fin, .bool a_finSent, .bool a_done]] w fun e w' => e = .returned (.agg #[.int .i64 a_una, .string a_data, .int .i64 a_sent, .bool a_fin, .bool a_finSent, .bool a_done]) ∧ Below w.heap.size w w' := by
  go_enter Try.func63, Try.ntmps63
  go_wp2
  all_goals (refine bodyPost_ret (v := .agg #[.int .i64 a_una, .string a_data, .int .i64 a_sent, .bool a_fin, .bool a_finSent, .bool a_done]) (by first | (simp [results, Try.results63, go_sem, *]; done) | (simp [results, Try.results63, go_sem, *]; omega) | (simp [results, Try.results63, go_sem, *]; grind)) rfl ⟨by first | rfl | (simp [*]; done), ?_⟩)
  all_goals (repeat' (first | (with_reducible exact Below.refl _ _) | (with_reducible refine Below.alloc ?_ ?_ _) | (with_reducible refine ak ?_ ?_ _ _) | (with_reducible refine Below.setCell ?_ ?_ _) | (with_reducible refine Below.drew ?_) | (with_reducible refine aF ?_ _) | (with_reducible assumption) | (with_reducible refine bZ ?_ (by assumption) ?_) | (simp only [World.size_alloc, World.size_setCell, World.size_drew, World.heap_drewN, a9]; done) | (simp only [World.size_alloc, World.size_setCell, World.size_drew, World.heap_drewN, a9]; omega) | omega))
theorem eqSender_c (a_una : Int) (a_data : ByteArray) (a_sent : Int) (a_fin : Bool) (a_finSent : Bool) (a_done : Bool) (w : World) : Calls Try.prog 67 #[.agg #[.int .i64 a_una, .string a_data, .int .i64 a_sent, .bool a_fin, .bool a_finSent, .bool a_done], .agg #[.int .i64 a_una, .string a_data, .int .i64 a_sent, .bool a_fin, .bool a_finSent, .bool a_done]] w fun e w' => e = .returned (.bool true) ∧ Below w.heap.size w w' := by
  go_enter Try.func67, Try.ntmps67
  go_wp2
  all_goals (refine bodyPost_ret (v := .bool true) (by first | (simp [results, Try.results67, go_sem, *]; done) | (simp [results, Try.results67, go_sem, *]; omega) | (simp [results, Try.results67, go_sem, *]; grind)) rfl ⟨by first | rfl | (simp [*]; done), ?_⟩)
  all_goals (repeat' (first | (with_reducible exact Below.refl _ _) | (with_reducible refine Below.alloc ?_ ?_ _) | (with_reducible refine ak ?_ ?_ _ _) | (with_reducible refine Below.setCell ?_ ?_ _) | (with_reducible refine Below.drew ?_) | (with_reducible refine aF ?_ _) | (with_reducible assumption) | (with_reducible refine bZ ?_ (by assumption) ?_) | (simp only [World.size_alloc, World.size_setCell, World.size_drew, World.heap_drewN, a9]; done) | (simp only [World.size_alloc, World.size_setCell, World.size_drew, World.heap_drewN, a9]; omega) | omega))
end Go.Proofs.Ytnhpmgcllclhfaa
