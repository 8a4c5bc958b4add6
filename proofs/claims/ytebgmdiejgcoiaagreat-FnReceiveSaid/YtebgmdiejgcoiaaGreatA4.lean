/- Contracts (A4). -/
import Derived.Test.YtebgmdiejgcoiaaGreatA3
import Derived.Test.YtebgmdiejgcoiaaGreatG1
namespace Go.Proofs.YtebgmdiejgcoiaaGreat
open Go.RowKit
attribute [local go_sem] gO gJ gV gN eS eW ec eZ eX eT ed eh eR eV eb ee eg aO cell?_grow frozen?_grow cI e5 dV
attribute [local go_sem] cV co dW dY dk cX cn dU dX dj e6 fF bE bU cU cT
set_option linter.unusedVariables false
set_option linter.unusedSimpArgs false
theorem sSeqDiff_c (a b : Int) (w : World) : Calls Tryz.prog 119 #[.int .i64 a, .int .i64 b] w fun e w' => e = .returned (.int .i64 (au a b)) ∧ w = w' := by
  go_enter Tryz.func119, Tryz.ntmps119
  go_wp2_with (first | (go_at_call 122; with_reducible refine (gr _ _).mono ?_; rintro e w1 ⟨rfl, rfl⟩))
  all_goals (refine bodyPost_ret (v := .int .i64 (au a b)) (by first | (simp [results, Tryz.results119, go_sem, *, au]; done) | (simp [results, Tryz.results119, go_sem, *, au]; omega) | (simp [results, Tryz.results119, go_sem, *, au]; grind) | (simp [results, Tryz.results119, go_sem, *, au, IntKind.wrap_u32, IntKind.wrap_i32, IntKind.wrap_i64, wrap64, wrap32]; (try split) <;> omega)) rfl ⟨by first | rfl | (simp [*]; done), ?_⟩)
  all_goals rfl
theorem iSeqDiff_c (a b : Int) (w : World) : Calls Tryz.prog 30 #[.int .i64 a, .int .i64 b] w fun e w' => e = .returned (.int .i64 (au a b)) ∧ w = w' := by
  go_enter Tryz.func30, Tryz.ntmps30
  go_wp2
  all_goals (refine bodyPost_ret (v := .int .i64 (au a b)) (by first | (simp [results, Tryz.results30, go_sem, *, au]; done) | (simp [results, Tryz.results30, go_sem, *, au]; omega) | (simp [results, Tryz.results30, go_sem, *, au]; grind) | (simp [results, Tryz.results30, go_sem, *, au, IntKind.wrap_u32, IntKind.wrap_i32, IntKind.wrap_i64, wrap64, wrap32]; (try split) <;> omega)) rfl ⟨by first | rfl | (simp [*]; done), ?_⟩)
  all_goals rfl
theorem ahead_c (x f : Int) (w : World) : Calls Tryz.prog 117 #[.int .i64 x, .int .i64 f] w fun e w' => e = .returned (.int .i64 ((x - f) % 4294967296)) ∧ w = w' := by
  go_enter Tryz.func117, Tryz.ntmps117
  go_wp2
  all_goals (refine bodyPost_ret (v := .int .i64 ((x - f) % 4294967296)) (by first | (simp [results, Tryz.results117, go_sem, *, iq, iv]; done) | (simp [results, Tryz.results117, go_sem, *, iq, iv]; omega) | (simp [results, Tryz.results117, go_sem, *, iq, iv]; grind)) rfl ⟨by first | rfl | (simp [*]; done), ?_⟩)
  all_goals rfl
theorem iInWindow_c (x f z : Int) (w : World) : Calls Tryz.prog 94 #[.int .i64 x, .int .i64 f, .int .i64 z] w fun e w' => e = .returned (.bool (bP x f z)) ∧ w = w' := by
  go_enter Tryz.func94, Tryz.ntmps94
  go_wp2_with (first | (go_at_call 117; with_reducible refine (ahead_c _ _ _).mono ?_; rintro e w1 ⟨rfl, rfl⟩))
  all_goals (refine bodyPost_ret (v := .bool (bP x f z)) (by first | (simp [results, Tryz.results94, go_sem, *, bP]; done) | (simp [results, Tryz.results94, go_sem, *, bP]; omega) | (simp [results, Tryz.results94, go_sem, *, bP]; grind)) rfl ⟨by first | rfl | (simp [*]; done), ?_⟩)
  all_goals rfl
theorem sInWindow_c (x f z : Int) (w : World) : Calls Tryz.prog 81 #[.int .i64 x, .int .i64 f, .int .i64 z] w fun e w' => e = .returned (.bool (bP x f z)) ∧ w = w' := by
  go_enter Tryz.func81, Tryz.ntmps81
  go_wp2_with (first | (go_at_call 122; with_reducible refine (gr _ _).mono ?_; rintro e w1 ⟨rfl, rfl⟩))
  all_goals (refine bodyPost_ret (v := .bool (bP x f z)) (by first | (simp [results, Tryz.results81, go_sem, *, bP]; done) | (simp [results, Tryz.results81, go_sem, *, bP]; omega) | (simp [results, Tryz.results81, go_sem, *, bP]; grind)) rfl ⟨by first | rfl | (simp [*]; done), ?_⟩)
  all_goals rfl
theorem iOverlaps_c (x n f z : Int) (w : World) : Calls Tryz.prog 129 #[.int .i64 x, .int .i64 n, .int .i64 f, .int .i64 z] w fun e w' => e = .returned (.bool (cM x n f z)) ∧ w = w' := by
  go_enter Tryz.func129, Tryz.ntmps129
  go_wp2_with (first | (go_at_call 117; with_reducible refine (ahead_c _ _ _).mono ?_; rintro e w1 ⟨rfl, rfl⟩) | (go_at_call 94; with_reducible refine (iInWindow_c _ _ _ _).mono ?_; rintro e w1 ⟨rfl, rfl⟩))
  all_goals (refine bodyPost_ret (v := .bool (cM x n f z)) (by first | (simp [results, Tryz.results129, go_sem, *, cM]; done) | (simp [results, Tryz.results129, go_sem, *, cM]; omega) | (simp [results, Tryz.results129, go_sem, *, cM]; grind)) rfl ⟨by first | rfl | (simp [*]; done), ?_⟩)
  all_goals rfl
theorem dB (a_una : Int) (a_data : ByteArray) (a_sent : Int) (a_fin : Bool) (a_finSent : Bool) (a_done : Bool) (w : World) : Calls Tryz.prog 77 #[.agg #[.int .i64 a_una, .string a_data, .int .i64 a_sent, .bool a_fin, .bool a_finSent, .bool a_done]] w fun e w' => e = .returned (.int .i64 (aj ⟨a_una, a_data, a_sent, a_fin, a_finSent, a_done⟩)) ∧ Below w.heap.size w w' := by
  go_enter Tryz.func77, Tryz.ntmps77
  go_wp2
  all_goals (refine bodyPost_ret (v := .int .i64 (aj ⟨a_una, a_data, a_sent, a_fin, a_finSent, a_done⟩)) (by first | (simp [results, Tryz.results77, go_sem, *, aj]; done) | (simp [results, Tryz.results77, go_sem, *, aj]; omega) | (simp [results, Tryz.results77, go_sem, *, aj]; grind)) rfl ⟨by first | rfl | (simp [*]; done), ?_⟩)
  all_goals (repeat' (first | (with_reducible exact Below.refl _ _) | (with_reducible refine Below.alloc ?_ ?_ _) | (with_reducible refine cd ?_ ?_ _ _) | (with_reducible refine Below.setCell ?_ ?_ _) | (with_reducible refine Below.drew ?_) | (with_reducible refine dG ?_ _) | (with_reducible assumption) | (with_reducible refine eG ?_ (by assumption) ?_) | (simp only [World.size_alloc, World.size_setCell, World.size_drew, World.heap_drewN, aO]; done) | (simp only [World.size_alloc, World.size_setCell, World.size_drew, World.heap_drewN, aO]; omega) | omega))
theorem sNextOf_c (a_una : Int) (a_data : ByteArray) (a_sent : Int) (a_fin : Bool) (a_finSent : Bool) (a_done : Bool) (w : World) : Calls Tryz.prog 87 #[.agg #[.int .i64 a_una, .string a_data, .int .i64 a_sent, .bool a_fin, .bool a_finSent, .bool a_done]] w fun e w' => e = .returned (.int .i64 (ay ⟨a_una, a_data, a_sent, a_fin, a_finSent, a_done⟩)) ∧ Below w.heap.size w w' := by
  go_enter Tryz.func87, Tryz.ntmps87
  go_wp2
  all_goals (go_region_held3 (fun w' => w'.cell? ⟨w.heap.size, 0, none⟩ = some (.int .i64 a_una) ∧ w'.cell? ⟨w.heap.size, 1, none⟩ = some (.string a_data) ∧ w'.cell? ⟨w.heap.size, 2, none⟩ = some (.int .i64 a_sent) ∧ w'.cell? ⟨w.heap.size, 3, none⟩ = some (.bool a_fin) ∧ w'.cell? ⟨w.heap.size, 4, none⟩ = some (.bool a_finSent) ∧ w'.cell? ⟨w.heap.size, 5, none⟩ = some (.bool a_done)) (first | (simp [go_sem]; done) | go_keep) (first | (go_at_call 77; refine (dB _ _ _ _ _ _ _).mono ?_; rintro e w1 ⟨rfl, hb1⟩; obtain ⟨d1, os1, rfl⟩ := f5 hb1; clear hb1) | (go_at_call 120; refine (bG _ _ _).mono ?_; rintro e w2 ⟨rfl, rfl⟩)))
  go_wp2
  all_goals (refine bodyPost_ret (v := .int .i64 (ay ⟨a_una, a_data, a_sent, a_fin, a_finSent, a_done⟩)) (by first | (simp [results, Tryz.results87, go_sem, *, ay]; done) | (simp [results, Tryz.results87, go_sem, *, ay]; omega) | (simp [results, Tryz.results87, go_sem, *, ay]; grind)) rfl ⟨by first | rfl | (simp [*]; done), ?_⟩)
  all_goals (repeat' (first | (with_reducible exact Below.refl _ _) | (with_reducible refine Below.alloc ?_ ?_ _) | (with_reducible refine cd ?_ ?_ _ _) | (with_reducible refine Below.setCell ?_ ?_ _) | (with_reducible refine Below.drew ?_) | (with_reducible refine dG ?_ _) | (with_reducible assumption) | (with_reducible refine eG ?_ (by assumption) ?_) | (simp only [World.size_alloc, World.size_setCell, World.size_drew, World.heap_drewN, aO]; done) | (simp only [World.size_alloc, World.size_setCell, World.size_drew, World.heap_drewN, aO]; omega) | omega))
theorem eP (a_una : Int) (a_data : ByteArray) (a_sent : Int) (a_fin : Bool) (a_finSent : Bool) (a_done : Bool) (w : World) : Calls Tryz.prog 64 #[.agg #[.int .i64 a_una, .string a_data, .int .i64 a_sent, .bool a_fin, .bool a_finSent, .bool a_done]] w fun e w' => e = .returned (.bool (aa ⟨a_una, a_data, a_sent, a_fin, a_finSent, a_done⟩)) ∧ Below w.heap.size w w' := by
  go_enter Tryz.func64, Tryz.ntmps64
  go_wp2_with (first | (go_at_call 114; with_reducible refine (fg _ _).mono ?_; rintro e w1 ⟨rfl, rfl⟩) | (go_at_call 114; with_reducible refine (ez _ _).mono ?_; rintro e w1 ⟨rfl, rfl⟩) | (go_at_call 114; with_reducible refine (ii _ _).mono ?_; rintro e w1 ⟨rfl, rfl⟩) | (go_at_call 67; with_reducible refine (f0 _ _ _ _).mono ?_; rintro e w1 ⟨rfl, rfl⟩))
  all_goals (refine bodyPost_ret (v := .bool (aa ⟨a_una, a_data, a_sent, a_fin, a_finSent, a_done⟩)) (by first | (simp [results, Tryz.results64, go_sem, *, aa]; done) | (simp [results, Tryz.results64, go_sem, *, aa]; omega) | (simp [results, Tryz.results64, go_sem, *, aa]; grind)) rfl ⟨by first | rfl | (simp [*]; done), ?_⟩)
  all_goals (repeat' (first | (with_reducible exact Below.refl _ _) | (with_reducible refine Below.alloc ?_ ?_ _) | (with_reducible refine cd ?_ ?_ _ _) | (with_reducible refine Below.setCell ?_ ?_ _) | (with_reducible refine Below.drew ?_) | (with_reducible refine dG ?_ _) | (with_reducible assumption) | (with_reducible refine eG ?_ (by assumption) ?_) | (simp only [World.size_alloc, World.size_setCell, World.size_drew, World.heap_drewN, aO]; done) | (simp only [World.size_alloc, World.size_setCell, World.size_drew, World.heap_drewN, aO]; omega) | omega))
theorem sRewound_c (a_una : Int) (a_data : ByteArray) (a_sent : Int) (a_fin : Bool) (a_finSent : Bool) (a_done : Bool) (w : World) : Calls Tryz.prog 165 #[.agg #[.int .i64 a_una, .string a_data, .int .i64 a_sent, .bool a_fin, .bool a_finSent, .bool a_done]] w fun e w' => e = .returned (.agg #[.int .i64 (aK ⟨a_una, a_data, a_sent, a_fin, a_finSent, a_done⟩).una, .string (aK ⟨a_una, a_data, a_sent, a_fin, a_finSent, a_done⟩).data, .int .i64 (aK ⟨a_una, a_data, a_sent, a_fin, a_finSent, a_done⟩).sent, .bool (aK ⟨a_una, a_data, a_sent, a_fin, a_finSent, a_done⟩).fin, .bool (aK ⟨a_una, a_data, a_sent, a_fin, a_finSent, a_done⟩).finSent, .bool (aK ⟨a_una, a_data, a_sent, a_fin, a_finSent, a_done⟩).done]) ∧ Below w.heap.size w w' := by
  go_enter Tryz.func165, Tryz.ntmps165
  go_wp2_with (first | (go_at_call 64; with_reducible refine (eP _ _ _ _ _ _ _).mono ?_; rintro e w1 ⟨rfl, hb1⟩; obtain ⟨d1, os1, rfl⟩ := f5 hb1; clear hb1))
  all_goals (refine bodyPost_ret (v := .agg #[.int .i64 (aK ⟨a_una, a_data, a_sent, a_fin, a_finSent, a_done⟩).una, .string (aK ⟨a_una, a_data, a_sent, a_fin, a_finSent, a_done⟩).data, .int .i64 (aK ⟨a_una, a_data, a_sent, a_fin, a_finSent, a_done⟩).sent, .bool (aK ⟨a_una, a_data, a_sent, a_fin, a_finSent, a_done⟩).fin, .bool (aK ⟨a_una, a_data, a_sent, a_fin, a_finSent, a_done⟩).finSent, .bool (aK ⟨a_una, a_data, a_sent, a_fin, a_finSent, a_done⟩).done]) (by first | (simp [results, Tryz.results165, go_sem, *, aK]; done) | (simp [results, Tryz.results165, go_sem, *, aK]; omega) | (simp [results, Tryz.results165, go_sem, *, aK]; grind)) rfl ⟨by first | rfl | (simp [*]; done), ?_⟩)
  all_goals (repeat' (first | (with_reducible exact Below.refl _ _) | (with_reducible refine Below.alloc ?_ ?_ _) | (with_reducible refine cd ?_ ?_ _ _) | (with_reducible refine Below.setCell ?_ ?_ _) | (with_reducible refine Below.drew ?_) | (with_reducible refine dG ?_ _) | (with_reducible assumption) | (with_reducible refine eG ?_ (by assumption) ?_) | (simp only [World.size_alloc, World.size_setCell, World.size_drew, World.heap_drewN, aO]; done) | (simp only [World.size_alloc, World.size_setCell, World.size_drew, World.heap_drewN, aO]; omega) | omega))
theorem eY (r_next : Int) (r_data : ByteArray) (r_held : List Pce) (r_held_v : Value) (r_fin : Int) (r_done : Bool) (w : World) (hsz : r_data.size ≤ 4611686018427387904) : Calls Tryz.prog 82 #[.agg #[.int .i64 r_next, .string r_data, r_held_v, .int .i64 r_fin, .bool r_done]] w fun e w' => e = .returned (.int .i64 (wO ⟨r_next, r_data, r_held, r_fin, r_done⟩)) ∧ Below w.heap.size w w' := by
  by_cases h : r_done = true
  all_goals
    go_enter Tryz.func82, Tryz.ntmps82
    go_wp2_with (first | (go_at_call 75; with_reducible refine (go _ _ _).mono ?_; rintro e w1 ⟨rfl, rfl⟩) | (go_at_call 76; with_reducible refine (eo _ _ _).mono ?_; rintro e w1 ⟨rfl, rfl⟩))
    all_goals (refine bodyPost_ret (v := .int .i64 (wO ⟨r_next, r_data, r_held, r_fin, r_done⟩)) (by first | (simp [results, Tryz.results82, go_sem, *, wO]; done) | (simp [results, Tryz.results82, go_sem, *, wO]; omega) | (simp [results, Tryz.results82, go_sem, *, wO]; grind)) rfl ⟨by first | rfl | (simp [*]; done), ?_⟩)
    all_goals (repeat' (first | (with_reducible exact Below.refl _ _) | (with_reducible refine Below.alloc ?_ ?_ _) | (with_reducible refine cd ?_ ?_ _ _) | (with_reducible refine Below.setCell ?_ ?_ _) | (with_reducible refine Below.drew ?_) | (with_reducible refine dG ?_ _) | (with_reducible assumption) | (with_reducible refine eG ?_ (by assumption) ?_) | (simp only [World.size_alloc, World.size_setCell, World.size_drew, World.heap_drewN, aO]; done) | (simp only [World.size_alloc, World.size_setCell, World.size_drew, World.heap_drewN, aO]; omega) | omega))
theorem gU (a_una : Int) (a_data : ByteArray) (a_sent : Int) (a_fin : Bool) (a_finSent : Bool) (a_done : Bool) (w : World) : Calls Tryz.prog 71 #[.agg #[.int .i64 a_una, .string a_data, .int .i64 a_sent, .bool a_fin, .bool a_finSent, .bool a_done]] w fun e w' => e = .returned (.int .i64 (aj ⟨a_una, a_data, a_sent, a_fin, a_finSent, a_done⟩)) ∧ Below w.heap.size w w' := by
  go_enter Tryz.func71, Tryz.ntmps71
  go_wp2
  all_goals (refine bodyPost_ret (v := .int .i64 (aj ⟨a_una, a_data, a_sent, a_fin, a_finSent, a_done⟩)) (by first | (simp [results, Tryz.results71, go_sem, *, aj]; done) | (simp [results, Tryz.results71, go_sem, *, aj]; omega) | (simp [results, Tryz.results71, go_sem, *, aj]; grind)) rfl ⟨by first | rfl | (simp [*]; done), ?_⟩)
  all_goals (repeat' (first | (with_reducible exact Below.refl _ _) | (with_reducible refine Below.alloc ?_ ?_ _) | (with_reducible refine cd ?_ ?_ _ _) | (with_reducible refine Below.setCell ?_ ?_ _) | (with_reducible refine Below.drew ?_) | (with_reducible refine dG ?_ _) | (with_reducible assumption) | (with_reducible refine eG ?_ (by assumption) ?_) | (simp only [World.size_alloc, World.size_setCell, World.size_drew, World.heap_drewN, aO]; done) | (simp only [World.size_alloc, World.size_setCell, World.size_drew, World.heap_drewN, aO]; omega) | omega))
theorem iNextOf_c (a_una : Int) (a_data : ByteArray) (a_sent : Int) (a_fin : Bool) (a_finSent : Bool) (a_done : Bool) (w : World) : Calls Tryz.prog 99 #[.agg #[.int .i64 a_una, .string a_data, .int .i64 a_sent, .bool a_fin, .bool a_finSent, .bool a_done]] w fun e w' => e = .returned (.int .i64 (ay ⟨a_una, a_data, a_sent, a_fin, a_finSent, a_done⟩)) ∧ Below w.heap.size w w' := by
  go_enter Tryz.func99, Tryz.ntmps99
  go_wp2
  all_goals (go_region_held3 (fun w' => w'.cell? ⟨w.heap.size, 0, none⟩ = some (.int .i64 a_una) ∧ w'.cell? ⟨w.heap.size, 1, none⟩ = some (.string a_data) ∧ w'.cell? ⟨w.heap.size, 2, none⟩ = some (.int .i64 a_sent) ∧ w'.cell? ⟨w.heap.size, 3, none⟩ = some (.bool a_fin) ∧ w'.cell? ⟨w.heap.size, 4, none⟩ = some (.bool a_finSent) ∧ w'.cell? ⟨w.heap.size, 5, none⟩ = some (.bool a_done)) (first | (simp [go_sem]; done) | go_keep) (first | (go_at_call 71; refine (gU _ _ _ _ _ _ _).mono ?_; rintro e w1 ⟨rfl, hb1⟩; obtain ⟨d1, os1, rfl⟩ := f5 hb1; clear hb1) | (go_at_call 115; refine (gc _ _ _).mono ?_; rintro e w2 ⟨rfl, rfl⟩)))
  go_wp2
  all_goals (refine bodyPost_ret (v := .int .i64 (ay ⟨a_una, a_data, a_sent, a_fin, a_finSent, a_done⟩)) (by first | (simp [results, Tryz.results99, go_sem, *, ay]; done) | (simp [results, Tryz.results99, go_sem, *, ay]; omega) | (simp [results, Tryz.results99, go_sem, *, ay]; grind)) rfl ⟨by first | rfl | (simp [*]; done), ?_⟩)
  all_goals (repeat' (first | (with_reducible exact Below.refl _ _) | (with_reducible refine Below.alloc ?_ ?_ _) | (with_reducible refine cd ?_ ?_ _ _) | (with_reducible refine Below.setCell ?_ ?_ _) | (with_reducible refine Below.drew ?_) | (with_reducible refine dG ?_ _) | (with_reducible assumption) | (with_reducible refine eG ?_ (by assumption) ?_) | (simp only [World.size_alloc, World.size_setCell, World.size_drew, World.heap_drewN, aO]; done) | (simp only [World.size_alloc, World.size_setCell, World.size_drew, World.heap_drewN, aO]; omega) | omega))
theorem fA (a_una : Int) (a_data : ByteArray) (a_sent : Int) (a_fin : Bool) (a_finSent : Bool) (a_done : Bool) (w : World) : Calls Tryz.prog 59 #[.agg #[.int .i64 a_una, .string a_data, .int .i64 a_sent, .bool a_fin, .bool a_finSent, .bool a_done]] w fun e w' => e = .returned (.bool (aa ⟨a_una, a_data, a_sent, a_fin, a_finSent, a_done⟩)) ∧ Below w.heap.size w w' := by
  go_enter Tryz.func59, Tryz.ntmps59
  go_wp2_with (first | (go_at_call 113; with_reducible refine (fu _ _).mono ?_; rintro e w1 ⟨rfl, rfl⟩) | (go_at_call 113; with_reducible refine (ft _ _).mono ?_; rintro e w1 ⟨rfl, rfl⟩) | (go_at_call 113; with_reducible refine (ic _ _).mono ?_; rintro e w1 ⟨rfl, rfl⟩) | (go_at_call 62; with_reducible refine (dM _ _ _ _).mono ?_; rintro e w1 ⟨rfl, rfl⟩))
  all_goals (refine bodyPost_ret (v := .bool (aa ⟨a_una, a_data, a_sent, a_fin, a_finSent, a_done⟩)) (by first | (simp [results, Tryz.results59, go_sem, *, aa]; done) | (simp [results, Tryz.results59, go_sem, *, aa]; omega) | (simp [results, Tryz.results59, go_sem, *, aa]; grind)) rfl ⟨by first | rfl | (simp [*]; done), ?_⟩)
  all_goals (repeat' (first | (with_reducible exact Below.refl _ _) | (with_reducible refine Below.alloc ?_ ?_ _) | (with_reducible refine cd ?_ ?_ _ _) | (with_reducible refine Below.setCell ?_ ?_ _) | (with_reducible refine Below.drew ?_) | (with_reducible refine dG ?_ _) | (with_reducible assumption) | (with_reducible refine eG ?_ (by assumption) ?_) | (simp only [World.size_alloc, World.size_setCell, World.size_drew, World.heap_drewN, aO]; done) | (simp only [World.size_alloc, World.size_setCell, World.size_drew, World.heap_drewN, aO]; omega) | omega))
theorem fD (r_next : Int) (r_data : ByteArray) (r_held : List Pce) (r_held_v : Value) (r_fin : Int) (r_done : Bool) (w : World) (hsz : r_data.size ≤ 4611686018427387904) : Calls Tryz.prog 95 #[.agg #[.int .i64 r_next, .string r_data, r_held_v, .int .i64 r_fin, .bool r_done]] w fun e w' => e = .returned (.int .i64 (wO ⟨r_next, r_data, r_held, r_fin, r_done⟩)) ∧ Below w.heap.size w w' := by
  by_cases h : r_done = true
  all_goals
    go_enter Tryz.func95, Tryz.ntmps95
    go_wp2_with (first | (go_at_call 75; with_reducible refine (go _ _ _).mono ?_; rintro e w1 ⟨rfl, rfl⟩) | (go_at_call 76; with_reducible refine (eo _ _ _).mono ?_; rintro e w1 ⟨rfl, rfl⟩))
    all_goals (refine bodyPost_ret (v := .int .i64 (wO ⟨r_next, r_data, r_held, r_fin, r_done⟩)) (by first | (simp [results, Tryz.results95, go_sem, *, wO]; done) | (simp [results, Tryz.results95, go_sem, *, wO]; omega) | (simp [results, Tryz.results95, go_sem, *, wO]; grind)) rfl ⟨by first | rfl | (simp [*]; done), ?_⟩)
    all_goals (repeat' (first | (with_reducible exact Below.refl _ _) | (with_reducible refine Below.alloc ?_ ?_ _) | (with_reducible refine cd ?_ ?_ _ _) | (with_reducible refine Below.setCell ?_ ?_ _) | (with_reducible refine Below.drew ?_) | (with_reducible refine dG ?_ _) | (with_reducible assumption) | (with_reducible refine eG ?_ (by assumption) ?_) | (simp only [World.size_alloc, World.size_setCell, World.size_drew, World.heap_drewN, aO]; done) | (simp only [World.size_alloc, World.size_setCell, World.size_drew, World.heap_drewN, aO]; omega) | omega))
set_option maxRecDepth 100000 in
theorem sOverlaps_c (x n f z : Int) (w : World) (hn : n ≤ 4611686018427387904) : Calls Tryz.prog 126 #[.int .i64 x, .int .i64 n, .int .i64 f, .int .i64 z] w fun e w' => e = .returned (.bool (cM x n f z)) ∧ w = w' := by
  go_enter Tryz.func126, Tryz.ntmps126
  go_wp2
  go_loop [9] (fun i => ∃ k : Nat, k ≤ 65536 ∧ i = .int .i64 k ∧ Hid (∀ j : Int, 0 ≤ j → j < k → bP ((x + j) % 4294967296) f z = false)) (fun i => 65536 - (intOf i).toNat)
  case atStart => exact ⟨0, by omega, rfl, fun j h1 h2 => by omega⟩
  case round =>
    obtain ⟨k, hk, rfl, hno⟩ := hrel
    by_cases h1 : (k : Int) < n
    · by_cases h2 : k < 65536
      · cases hq : bP ((x + k) % 4294967296) f z
        all_goals
          have hk0 : (0 : Int) ≤ (k : Int) := Int.natCast_nonneg _
          have hk9 : (k : Int) < 65536 := by omega
          go_wp2_with (first | (go_at_call 120; with_reducible refine (bG _ _ _).mono ?_; rintro e w1 ⟨rfl, rfl⟩; rw [show sA x (k : Int) = (x + k) % 4294967296 from rfl]) | (go_at_call 81; with_reducible refine (sInWindow_c _ _ _ _).mono ?_; rintro e w1 ⟨rfl, rfl⟩))
        · go_round
          case rel => exact ⟨k + 1, by omega, by go_num, fun j hj1 hj2 => by
            by_cases h : j = k
            · subst h; exact hq
            · exact hno j hj1 (by omega)⟩
          case measure => simp [intOf]; omega
        · have hy := overlaps_yes (x := x) (n := n) (from_ := f) (size := z) (i := k) (by omega) h1 (by omega) hq
          refine bodyPost_ret (v := .bool (cM x n f z)) (by simp [results, Tryz.results126, hy]) rfl ⟨rfl, rfl⟩
      · obtain rfl : k = 65536 := by omega
        go_wp2
        have hy := overlaps_no (x := x) (n := n) (from_ := f) (size := z) (fun i a b c => hno i a (by omega))
        refine bodyPost_ret (v := .bool (cM x n f z)) (by simp [results, Tryz.results126, hy]) rfl ⟨rfl, rfl⟩
    · go_wp2
      have hy := overlaps_no (x := x) (n := n) (from_ := f) (size := z) (fun i a b c => hno i a (by omega))
      refine bodyPost_ret (v := .bool (cM x n f z)) (by simp [results, Tryz.results126, hy]) rfl ⟨rfl, rfl⟩
end Go.Proofs.YtebgmdiejgcoiaaGreat
