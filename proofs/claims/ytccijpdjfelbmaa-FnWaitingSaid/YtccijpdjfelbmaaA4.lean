/- Contracts (A4). -/
import Derived.Test.YtccijpdjfelbmaaA3
import Derived.Test.YtccijpdjfelbmaaG1
namespace Go.Proofs.Ytccijpdjfelbmaa
open Go.RowKit
attribute [local go_sem] fZ fM fN fL ew er eu ez es ev ey e0 dA dC e5 dB e8 aJ cell?_grow frozen?_grow cg dX dq
attribute [local go_sem] c8 bK dr dv cC c9 bM dy dx cA dc fx bh bt cx cu
set_option linter.unusedVariables false
set_option linter.unusedSimpArgs false
theorem sSeqDiff_c (a b : Int) (w : World) : Calls Try.prog 98 #[.int .i64 a, .int .i64 b] w fun e w' => e = .returned (.int .i64 (aY a b)) ∧ w = w' := by
  go_enter Try.func98, Try.ntmps98
  go_wp2_with (first | (go_at_call 74; with_reducible refine (fj _ _).mono ?_; rintro e w1 ⟨rfl, rfl⟩))
  all_goals (refine bodyPost_ret (v := .int .i64 (aY a b)) (by first | (simp [results, Try.results98, go_sem, *, aY]; done) | (simp [results, Try.results98, go_sem, *, aY]; omega) | (simp [results, Try.results98, go_sem, *, aY]; grind) | (simp [results, Try.results98, go_sem, *, aY, IntKind.wrap_u32, IntKind.wrap_i32, IntKind.wrap_i64, wrap64, wrap32]; (try split) <;> omega)) rfl ⟨by first | rfl | (simp [*]; done), ?_⟩)
  all_goals rfl
theorem sInWindow_c (x f z : Int) (w : World) : Calls Try.prog 93 #[.int .i64 x, .int .i64 f, .int .i64 z] w fun e w' => e = .returned (.bool (cy x f z)) ∧ w = w' := by
  go_enter Try.func93, Try.ntmps93
  go_wp2_with (first | (go_at_call 74; with_reducible refine (fj _ _).mono ?_; rintro e w1 ⟨rfl, rfl⟩))
  all_goals (refine bodyPost_ret (v := .bool (cy x f z)) (by first | (simp [results, Try.results93, go_sem, *, cy]; done) | (simp [results, Try.results93, go_sem, *, cy]; omega) | (simp [results, Try.results93, go_sem, *, cy]; grind)) rfl ⟨by first | rfl | (simp [*]; done), ?_⟩)
  all_goals rfl
theorem dY (a_una : Int) (a_data : ByteArray) (a_sent : Int) (a_fin : Bool) (a_finSent : Bool) (a_done : Bool) (w : World) : Calls Try.prog 71 #[.agg #[.int .i64 a_una, .string a_data, .int .i64 a_sent, .bool a_fin, .bool a_finSent, .bool a_done]] w fun e w' => e = .returned (.int .i64 (af ⟨a_una, a_data, a_sent, a_fin, a_finSent, a_done⟩)) ∧ Below w.heap.size w w' := by
  go_enter Try.func71, Try.ntmps71
  go_wp2
  all_goals (refine bodyPost_ret (v := .int .i64 (af ⟨a_una, a_data, a_sent, a_fin, a_finSent, a_done⟩)) (by first | (simp [results, Try.results71, go_sem, *, af]; done) | (simp [results, Try.results71, go_sem, *, af]; omega) | (simp [results, Try.results71, go_sem, *, af]; grind)) rfl ⟨by first | rfl | (simp [*]; done), ?_⟩)
  all_goals (repeat' (first | (with_reducible exact Below.refl _ _) | (with_reducible refine Below.alloc ?_ ?_ _) | (with_reducible refine dW ?_ ?_ _ _) | (with_reducible refine Below.setCell ?_ ?_ _) | (with_reducible refine Below.drew ?_) | (with_reducible refine fU ?_ _) | (with_reducible assumption) | (with_reducible refine bstep ?_ (by assumption) ?_) | (simp only [World.size_alloc, World.size_setCell, World.size_drew, World.heap_drewN, aJ]; done) | (simp only [World.size_alloc, World.size_setCell, World.size_drew, World.heap_drewN, aJ]; omega) | omega))
theorem sNextOf_c (a_una : Int) (a_data : ByteArray) (a_sent : Int) (a_fin : Bool) (a_finSent : Bool) (a_done : Bool) (w : World) : Calls Try.prog 91 #[.agg #[.int .i64 a_una, .string a_data, .int .i64 a_sent, .bool a_fin, .bool a_finSent, .bool a_done]] w fun e w' => e = .returned (.int .i64 (ag ⟨a_una, a_data, a_sent, a_fin, a_finSent, a_done⟩)) ∧ Below w.heap.size w w' := by
  go_enter Try.func91, Try.ntmps91
  go_wp2
  all_goals (go_region_held3 (fun w' => w'.cell? ⟨w.heap.size, 0, none⟩ = some (.int .i64 a_una) ∧ w'.cell? ⟨w.heap.size, 1, none⟩ = some (.string a_data) ∧ w'.cell? ⟨w.heap.size, 2, none⟩ = some (.int .i64 a_sent) ∧ w'.cell? ⟨w.heap.size, 3, none⟩ = some (.bool a_fin) ∧ w'.cell? ⟨w.heap.size, 4, none⟩ = some (.bool a_finSent) ∧ w'.cell? ⟨w.heap.size, 5, none⟩ = some (.bool a_done)) (first | (simp [go_sem]; done) | go_keep) (first | (go_at_call 71; refine (dY _ _ _ _ _ _ _).mono ?_; rintro e w1 ⟨rfl, hb1⟩; obtain ⟨d1, os1, rfl⟩ := gZ hb1; clear hb1) | (go_at_call 56; refine (bk _ _ _).mono ?_; rintro e w2 ⟨rfl, rfl⟩)))
  go_wp2
  all_goals (refine bodyPost_ret (v := .int .i64 (ag ⟨a_una, a_data, a_sent, a_fin, a_finSent, a_done⟩)) (by first | (simp [results, Try.results91, go_sem, *, ag]; done) | (simp [results, Try.results91, go_sem, *, ag]; omega) | (simp [results, Try.results91, go_sem, *, ag]; grind)) rfl ⟨by first | rfl | (simp [*]; done), ?_⟩)
  all_goals (repeat' (first | (with_reducible exact Below.refl _ _) | (with_reducible refine Below.alloc ?_ ?_ _) | (with_reducible refine dW ?_ ?_ _ _) | (with_reducible refine Below.setCell ?_ ?_ _) | (with_reducible refine Below.drew ?_) | (with_reducible refine fU ?_ _) | (with_reducible assumption) | (with_reducible refine bstep ?_ (by assumption) ?_) | (simp only [World.size_alloc, World.size_setCell, World.size_drew, World.heap_drewN, aJ]; done) | (simp only [World.size_alloc, World.size_setCell, World.size_drew, World.heap_drewN, aJ]; omega) | omega))
theorem et (a_una : Int) (a_data : ByteArray) (a_sent : Int) (a_fin : Bool) (a_finSent : Bool) (a_done : Bool) (w : World) : Calls Try.prog 85 #[.agg #[.int .i64 a_una, .string a_data, .int .i64 a_sent, .bool a_fin, .bool a_finSent, .bool a_done]] w fun e w' => e = .returned (.bool (aM ⟨a_una, a_data, a_sent, a_fin, a_finSent, a_done⟩)) ∧ Below w.heap.size w w' := by
  go_enter Try.func85, Try.ntmps85
  go_wp2_with (first | (go_at_call 54; with_reducible refine (eW _ _).mono ?_; rintro e w1 ⟨rfl, rfl⟩) | (go_at_call 54; with_reducible refine (dQ _ _).mono ?_; rintro e w1 ⟨rfl, rfl⟩) | (go_at_call 54; with_reducible refine (gm _ _).mono ?_; rintro e w1 ⟨rfl, rfl⟩) | (go_at_call 83; with_reducible refine (dP _ _ _ _).mono ?_; rintro e w1 ⟨rfl, rfl⟩))
  all_goals (refine bodyPost_ret (v := .bool (aM ⟨a_una, a_data, a_sent, a_fin, a_finSent, a_done⟩)) (by first | (simp [results, Try.results85, go_sem, *, aM]; done) | (simp [results, Try.results85, go_sem, *, aM]; omega) | (simp [results, Try.results85, go_sem, *, aM]; grind)) rfl ⟨by first | rfl | (simp [*]; done), ?_⟩)
  all_goals (repeat' (first | (with_reducible exact Below.refl _ _) | (with_reducible refine Below.alloc ?_ ?_ _) | (with_reducible refine dW ?_ ?_ _ _) | (with_reducible refine Below.setCell ?_ ?_ _) | (with_reducible refine Below.drew ?_) | (with_reducible refine fU ?_ _) | (with_reducible assumption) | (with_reducible refine bstep ?_ (by assumption) ?_) | (simp only [World.size_alloc, World.size_setCell, World.size_drew, World.heap_drewN, aJ]; done) | (simp only [World.size_alloc, World.size_setCell, World.size_drew, World.heap_drewN, aJ]; omega) | omega))
theorem sRewound_c (a_una : Int) (a_data : ByteArray) (a_sent : Int) (a_fin : Bool) (a_finSent : Bool) (a_done : Bool) (w : World) : Calls Try.prog 63 #[.agg #[.int .i64 a_una, .string a_data, .int .i64 a_sent, .bool a_fin, .bool a_finSent, .bool a_done]] w fun e w' => e = .returned (.agg #[.int .i64 (ac ⟨a_una, a_data, a_sent, a_fin, a_finSent, a_done⟩).una, .string (ac ⟨a_una, a_data, a_sent, a_fin, a_finSent, a_done⟩).data, .int .i64 (ac ⟨a_una, a_data, a_sent, a_fin, a_finSent, a_done⟩).sent, .bool (ac ⟨a_una, a_data, a_sent, a_fin, a_finSent, a_done⟩).fin, .bool (ac ⟨a_una, a_data, a_sent, a_fin, a_finSent, a_done⟩).finSent, .bool (ac ⟨a_una, a_data, a_sent, a_fin, a_finSent, a_done⟩).done]) ∧ Below w.heap.size w w' := by
  go_enter Try.func63, Try.ntmps63
  go_wp2_with (first | (go_at_call 85; with_reducible refine (et _ _ _ _ _ _ _).mono ?_; rintro e w1 ⟨rfl, hb1⟩; obtain ⟨d1, os1, rfl⟩ := gZ hb1; clear hb1))
  all_goals (refine bodyPost_ret (v := .agg #[.int .i64 (ac ⟨a_una, a_data, a_sent, a_fin, a_finSent, a_done⟩).una, .string (ac ⟨a_una, a_data, a_sent, a_fin, a_finSent, a_done⟩).data, .int .i64 (ac ⟨a_una, a_data, a_sent, a_fin, a_finSent, a_done⟩).sent, .bool (ac ⟨a_una, a_data, a_sent, a_fin, a_finSent, a_done⟩).fin, .bool (ac ⟨a_una, a_data, a_sent, a_fin, a_finSent, a_done⟩).finSent, .bool (ac ⟨a_una, a_data, a_sent, a_fin, a_finSent, a_done⟩).done]) (by first | (simp [results, Try.results63, go_sem, *, ac]; done) | (simp [results, Try.results63, go_sem, *, ac]; omega) | (simp [results, Try.results63, go_sem, *, ac]; grind)) rfl ⟨by first | rfl | (simp [*]; done), ?_⟩)
  all_goals (repeat' (first | (with_reducible exact Below.refl _ _) | (with_reducible refine Below.alloc ?_ ?_ _) | (with_reducible refine dW ?_ ?_ _ _) | (with_reducible refine Below.setCell ?_ ?_ _) | (with_reducible refine Below.drew ?_) | (with_reducible refine fU ?_ _) | (with_reducible assumption) | (with_reducible refine bstep ?_ (by assumption) ?_) | (simp only [World.size_alloc, World.size_setCell, World.size_drew, World.heap_drewN, aJ]; done) | (simp only [World.size_alloc, World.size_setCell, World.size_drew, World.heap_drewN, aJ]; omega) | omega))
theorem e7 (r_next : Int) (r_data : ByteArray) (r_held : List Pce) (r_held_v : Value) (r_fin : Int) (r_done : Bool) (w : World) (hsz : r_data.size ≤ 4611686018427387904) : Calls Try.prog 65 #[.agg #[.int .i64 r_next, .string r_data, r_held_v, .int .i64 r_fin, .bool r_done]] w fun e w' => e = .returned (.int .i64 (wO ⟨r_next, r_data, r_held, r_fin, r_done⟩)) ∧ Below w.heap.size w w' := by
  by_cases h : r_done = true
  all_goals
    go_enter Try.func65, Try.ntmps65
    go_wp2_with (first | (go_at_call 88; with_reducible refine (fG _ _ _).mono ?_; rintro e w1 ⟨rfl, rfl⟩) | (go_at_call 55; with_reducible refine (dE _ _ _).mono ?_; rintro e w1 ⟨rfl, rfl⟩))
    all_goals (refine bodyPost_ret (v := .int .i64 (wO ⟨r_next, r_data, r_held, r_fin, r_done⟩)) (by first | (simp [results, Try.results65, go_sem, *, wO]; done) | (simp [results, Try.results65, go_sem, *, wO]; omega) | (simp [results, Try.results65, go_sem, *, wO]; grind)) rfl ⟨by first | rfl | (simp [*]; done), ?_⟩)
    all_goals (repeat' (first | (with_reducible exact Below.refl _ _) | (with_reducible refine Below.alloc ?_ ?_ _) | (with_reducible refine dW ?_ ?_ _ _) | (with_reducible refine Below.setCell ?_ ?_ _) | (with_reducible refine Below.drew ?_) | (with_reducible refine fU ?_ _) | (with_reducible assumption) | (with_reducible refine bstep ?_ (by assumption) ?_) | (simp only [World.size_alloc, World.size_setCell, World.size_drew, World.heap_drewN, aJ]; done) | (simp only [World.size_alloc, World.size_setCell, World.size_drew, World.heap_drewN, aJ]; omega) | omega))
set_option maxRecDepth 100000 in
theorem sOverlaps_c (x n f z : Int) (w : World) (hn : n ≤ 4611686018427387904) : Calls Try.prog 102 #[.int .i64 x, .int .i64 n, .int .i64 f, .int .i64 z] w fun e w' => e = .returned (.bool (db x n f z)) ∧ w = w' := by
  go_enter Try.func102, Try.ntmps102
  go_wp2
  go_loop [9] (fun i => ∃ k : Nat, k ≤ 65536 ∧ i = .int .i64 k ∧ Hid (∀ j : Int, 0 ≤ j → j < k → cy ((x + j) % 4294967296) f z = false)) (fun i => 65536 - (intOf i).toNat)
  case atStart => exact ⟨0, by omega, rfl, fun j h1 h2 => by omega⟩
  case round =>
    obtain ⟨k, hk, rfl, hno⟩ := hrel
    by_cases h1 : (k : Int) < n
    · by_cases h2 : k < 65536
      · cases hq : cy ((x + k) % 4294967296) f z
        all_goals
          have hk0 : (0 : Int) ≤ (k : Int) := Int.natCast_nonneg _
          have hk9 : (k : Int) < 65536 := by omega
          go_wp2_with (first | (go_at_call 56; with_reducible refine (bk _ _ _).mono ?_; rintro e w1 ⟨rfl, rfl⟩; rw [show sA x (k : Int) = (x + k) % 4294967296 from rfl]) | (go_at_call 93; with_reducible refine (sInWindow_c _ _ _ _).mono ?_; rintro e w1 ⟨rfl, rfl⟩))
        · go_round
          case rel => exact ⟨k + 1, by omega, by go_num, fun j hj1 hj2 => by
            by_cases h : j = k
            · subst h; exact hq
            · exact hno j hj1 (by omega)⟩
          case measure => simp [intOf]; omega
        · have hy := overlaps_yes (x := x) (n := n) (from_ := f) (size := z) (i := k) (by omega) h1 (by omega) hq
          refine bodyPost_ret (v := .bool (db x n f z)) (by simp [results, Try.results102, hy]) rfl ⟨rfl, rfl⟩
      · obtain rfl : k = 65536 := by omega
        go_wp2
        have hy := overlaps_no (x := x) (n := n) (from_ := f) (size := z) (fun i a b c => hno i a (by omega))
        refine bodyPost_ret (v := .bool (db x n f z)) (by simp [results, Try.results102, hy]) rfl ⟨rfl, rfl⟩
    · go_wp2
      have hy := overlaps_no (x := x) (n := n) (from_ := f) (size := z) (fun i a b c => hno i a (by omega))
      refine bodyPost_ret (v := .bool (db x n f z)) (by simp [results, Try.results102, hy]) rfl ⟨rfl, rfl⟩
end Go.Proofs.Ytccijpdjfelbmaa
