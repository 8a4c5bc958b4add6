/- Contracts (A4). -/
import Derived.Test.YtccijpdjfelbmaaGreatA3
import Derived.Test.YtccijpdjfelbmaaGreatG1
namespace Go.Proofs.YtccijpdjfelbmaaGreat
open Go.RowKit
attribute [local go_sem] gq gu fB fH ek eo et er ei eh ef es ej ec ed eu el aC cell?_grow frozen?_grow cV dO dh
attribute [local go_sem] ci bB dp dk dz cl c5 di dj d8 dN fY bV bl ce cg
set_option linter.unusedVariables false
set_option linter.unusedSimpArgs false
theorem sSeqDiff_c (a b : Int) (w : World) : Calls Tryz.prog 128 #[.int .i64 a, .int .i64 b] w fun e w' => e = .returned (.int .i64 (aU a b)) ∧ w = w' := by
  go_enter Tryz.func128, Tryz.ntmps128
  go_wp2_with (first | (go_at_call 112; with_reducible refine (fO _ _).mono ?_; rintro e w1 ⟨rfl, rfl⟩))
  all_goals (refine bodyPost_ret (v := .int .i64 (aU a b)) (by first | (simp [results, Tryz.results128, go_sem, *, aU]; done) | (simp [results, Tryz.results128, go_sem, *, aU]; omega) | (simp [results, Tryz.results128, go_sem, *, aU]; grind) | (simp [results, Tryz.results128, go_sem, *, aU, IntKind.wrap_u32, IntKind.wrap_i32, IntKind.wrap_i64, wrap64, wrap32]; (try split) <;> omega)) rfl ⟨by first | rfl | (simp [*]; done), ?_⟩)
  all_goals rfl
theorem sInWindow_c (x f z : Int) (w : World) : Calls Tryz.prog 123 #[.int .i64 x, .int .i64 f, .int .i64 z] w fun e w' => e = .returned (.bool (cj x f z)) ∧ w = w' := by
  go_enter Tryz.func123, Tryz.ntmps123
  go_wp2_with (first | (go_at_call 112; with_reducible refine (fO _ _).mono ?_; rintro e w1 ⟨rfl, rfl⟩))
  all_goals (refine bodyPost_ret (v := .bool (cj x f z)) (by first | (simp [results, Tryz.results123, go_sem, *, cj]; done) | (simp [results, Tryz.results123, go_sem, *, cj]; omega) | (simp [results, Tryz.results123, go_sem, *, cj]; grind)) rfl ⟨by first | rfl | (simp [*]; done), ?_⟩)
  all_goals rfl
theorem dL (a_una : Int) (a_data : ByteArray) (a_sent : Int) (a_fin : Bool) (a_finSent : Bool) (a_done : Bool) (w : World) : Calls Tryz.prog 109 #[.agg #[.int .i64 a_una, .string a_data, .int .i64 a_sent, .bool a_fin, .bool a_finSent, .bool a_done]] w fun e w' => e = .returned (.int .i64 (ae ⟨a_una, a_data, a_sent, a_fin, a_finSent, a_done⟩)) ∧ Below w.heap.size w w' := by
  go_enter Tryz.func109, Tryz.ntmps109
  go_wp2
  all_goals (refine bodyPost_ret (v := .int .i64 (ae ⟨a_una, a_data, a_sent, a_fin, a_finSent, a_done⟩)) (by first | (simp [results, Tryz.results109, go_sem, *, ae]; done) | (simp [results, Tryz.results109, go_sem, *, ae]; omega) | (simp [results, Tryz.results109, go_sem, *, ae]; grind)) rfl ⟨by first | rfl | (simp [*]; done), ?_⟩)
  all_goals (repeat' (first | (with_reducible exact Below.refl _ _) | (with_reducible refine Below.alloc ?_ ?_ _) | (with_reducible refine dJ ?_ ?_ _ _) | (with_reducible refine Below.setCell ?_ ?_ _) | (with_reducible refine Below.drew ?_) | (with_reducible refine gx ?_ _) | (with_reducible assumption) | (with_reducible refine bstep ?_ (by assumption) ?_) | (simp only [World.size_alloc, World.size_setCell, World.size_drew, World.heap_drewN, aC]; done) | (simp only [World.size_alloc, World.size_setCell, World.size_drew, World.heap_drewN, aC]; omega) | omega))
theorem sNextOf_c (a_una : Int) (a_data : ByteArray) (a_sent : Int) (a_fin : Bool) (a_finSent : Bool) (a_done : Bool) (w : World) : Calls Tryz.prog 121 #[.agg #[.int .i64 a_una, .string a_data, .int .i64 a_sent, .bool a_fin, .bool a_finSent, .bool a_done]] w fun e w' => e = .returned (.int .i64 (af ⟨a_una, a_data, a_sent, a_fin, a_finSent, a_done⟩)) ∧ Below w.heap.size w w' := by
  go_enter Tryz.func121, Tryz.ntmps121
  go_wp2
  all_goals (go_region_held3 (fun w' => w'.cell? ⟨w.heap.size, 0, none⟩ = some (.int .i64 a_una) ∧ w'.cell? ⟨w.heap.size, 1, none⟩ = some (.string a_data) ∧ w'.cell? ⟨w.heap.size, 2, none⟩ = some (.int .i64 a_sent) ∧ w'.cell? ⟨w.heap.size, 3, none⟩ = some (.bool a_fin) ∧ w'.cell? ⟨w.heap.size, 4, none⟩ = some (.bool a_finSent) ∧ w'.cell? ⟨w.heap.size, 5, none⟩ = some (.bool a_done)) (first | (simp [go_sem]; done) | go_keep) (first | (go_at_call 109; refine (dL _ _ _ _ _ _ _).mono ?_; rintro e w1 ⟨rfl, hb1⟩; obtain ⟨d1, os1, rfl⟩ := hX hb1; clear hb1) | (go_at_call 96; refine (bW _ _ _).mono ?_; rintro e w2 ⟨rfl, rfl⟩)))
  go_wp2
  all_goals (refine bodyPost_ret (v := .int .i64 (af ⟨a_una, a_data, a_sent, a_fin, a_finSent, a_done⟩)) (by first | (simp [results, Tryz.results121, go_sem, *, af]; done) | (simp [results, Tryz.results121, go_sem, *, af]; omega) | (simp [results, Tryz.results121, go_sem, *, af]; grind)) rfl ⟨by first | rfl | (simp [*]; done), ?_⟩)
  all_goals (repeat' (first | (with_reducible exact Below.refl _ _) | (with_reducible refine Below.alloc ?_ ?_ _) | (with_reducible refine dJ ?_ ?_ _ _) | (with_reducible refine Below.setCell ?_ ?_ _) | (with_reducible refine Below.drew ?_) | (with_reducible refine gx ?_ _) | (with_reducible assumption) | (with_reducible refine bstep ?_ (by assumption) ?_) | (simp only [World.size_alloc, World.size_setCell, World.size_drew, World.heap_drewN, aC]; done) | (simp only [World.size_alloc, World.size_setCell, World.size_drew, World.heap_drewN, aC]; omega) | omega))
theorem en (a_una : Int) (a_data : ByteArray) (a_sent : Int) (a_fin : Bool) (a_finSent : Bool) (a_done : Bool) (w : World) : Calls Tryz.prog 65 #[.agg #[.int .i64 a_una, .string a_data, .int .i64 a_sent, .bool a_fin, .bool a_finSent, .bool a_done]] w fun e w' => e = .returned (.bool (aG ⟨a_una, a_data, a_sent, a_fin, a_finSent, a_done⟩)) ∧ Below w.heap.size w w' := by
  go_enter Tryz.func65, Tryz.ntmps65
  go_wp2_with (first | (go_at_call 91; with_reducible refine (eI _ _).mono ?_; rintro e w1 ⟨rfl, rfl⟩) | (go_at_call 91; with_reducible refine (dF _ _).mono ?_; rintro e w1 ⟨rfl, rfl⟩) | (go_at_call 91; with_reducible refine (gD _ _).mono ?_; rintro e w1 ⟨rfl, rfl⟩) | (go_at_call 63; with_reducible refine (dA _ _ _ _).mono ?_; rintro e w1 ⟨rfl, rfl⟩))
  all_goals (refine bodyPost_ret (v := .bool (aG ⟨a_una, a_data, a_sent, a_fin, a_finSent, a_done⟩)) (by first | (simp [results, Tryz.results65, go_sem, *, aG]; done) | (simp [results, Tryz.results65, go_sem, *, aG]; omega) | (simp [results, Tryz.results65, go_sem, *, aG]; grind)) rfl ⟨by first | rfl | (simp [*]; done), ?_⟩)
  all_goals (repeat' (first | (with_reducible exact Below.refl _ _) | (with_reducible refine Below.alloc ?_ ?_ _) | (with_reducible refine dJ ?_ ?_ _ _) | (with_reducible refine Below.setCell ?_ ?_ _) | (with_reducible refine Below.drew ?_) | (with_reducible refine gx ?_ _) | (with_reducible assumption) | (with_reducible refine bstep ?_ (by assumption) ?_) | (simp only [World.size_alloc, World.size_setCell, World.size_drew, World.heap_drewN, aC]; done) | (simp only [World.size_alloc, World.size_setCell, World.size_drew, World.heap_drewN, aC]; omega) | omega))
theorem sRewound_c (a_una : Int) (a_data : ByteArray) (a_sent : Int) (a_fin : Bool) (a_finSent : Bool) (a_done : Bool) (w : World) : Calls Tryz.prog 102 #[.agg #[.int .i64 a_una, .string a_data, .int .i64 a_sent, .bool a_fin, .bool a_finSent, .bool a_done]] w fun e w' => e = .returned (.agg #[.int .i64 (ab ⟨a_una, a_data, a_sent, a_fin, a_finSent, a_done⟩).una, .string (ab ⟨a_una, a_data, a_sent, a_fin, a_finSent, a_done⟩).data, .int .i64 (ab ⟨a_una, a_data, a_sent, a_fin, a_finSent, a_done⟩).sent, .bool (ab ⟨a_una, a_data, a_sent, a_fin, a_finSent, a_done⟩).fin, .bool (ab ⟨a_una, a_data, a_sent, a_fin, a_finSent, a_done⟩).finSent, .bool (ab ⟨a_una, a_data, a_sent, a_fin, a_finSent, a_done⟩).done]) ∧ Below w.heap.size w w' := by
  go_enter Tryz.func102, Tryz.ntmps102
  go_wp2_with (first | (go_at_call 65; with_reducible refine (en _ _ _ _ _ _ _).mono ?_; rintro e w1 ⟨rfl, hb1⟩; obtain ⟨d1, os1, rfl⟩ := hX hb1; clear hb1))
  all_goals (refine bodyPost_ret (v := .agg #[.int .i64 (ab ⟨a_una, a_data, a_sent, a_fin, a_finSent, a_done⟩).una, .string (ab ⟨a_una, a_data, a_sent, a_fin, a_finSent, a_done⟩).data, .int .i64 (ab ⟨a_una, a_data, a_sent, a_fin, a_finSent, a_done⟩).sent, .bool (ab ⟨a_una, a_data, a_sent, a_fin, a_finSent, a_done⟩).fin, .bool (ab ⟨a_una, a_data, a_sent, a_fin, a_finSent, a_done⟩).finSent, .bool (ab ⟨a_una, a_data, a_sent, a_fin, a_finSent, a_done⟩).done]) (by first | (simp [results, Tryz.results102, go_sem, *, ab]; done) | (simp [results, Tryz.results102, go_sem, *, ab]; omega) | (simp [results, Tryz.results102, go_sem, *, ab]; grind)) rfl ⟨by first | rfl | (simp [*]; done), ?_⟩)
  all_goals (repeat' (first | (with_reducible exact Below.refl _ _) | (with_reducible refine Below.alloc ?_ ?_ _) | (with_reducible refine dJ ?_ ?_ _ _) | (with_reducible refine Below.setCell ?_ ?_ _) | (with_reducible refine Below.drew ?_) | (with_reducible refine gx ?_ _) | (with_reducible assumption) | (with_reducible refine bstep ?_ (by assumption) ?_) | (simp only [World.size_alloc, World.size_setCell, World.size_drew, World.heap_drewN, aC]; done) | (simp only [World.size_alloc, World.size_setCell, World.size_drew, World.heap_drewN, aC]; omega) | omega))
theorem ee (r_next : Int) (r_data : ByteArray) (r_held : List Pce) (r_held_v : Value) (r_fin : Int) (r_done : Bool) (w : World) (hsz : r_data.size ≤ 4611686018427387904) : Calls Tryz.prog 92 #[.agg #[.int .i64 r_next, .string r_data, r_held_v, .int .i64 r_fin, .bool r_done]] w fun e w' => e = .returned (.int .i64 (wO ⟨r_next, r_data, r_held, r_fin, r_done⟩)) ∧ Below w.heap.size w w' := by
  by_cases h : r_done = true
  all_goals
    go_enter Tryz.func92, Tryz.ntmps92
    go_wp2_with (first | (go_at_call 118; with_reducible refine (gk _ _ _).mono ?_; rintro e w1 ⟨rfl, rfl⟩) | (go_at_call 95; with_reducible refine (ez _ _ _).mono ?_; rintro e w1 ⟨rfl, rfl⟩))
    all_goals (refine bodyPost_ret (v := .int .i64 (wO ⟨r_next, r_data, r_held, r_fin, r_done⟩)) (by first | (simp [results, Tryz.results92, go_sem, *, wO]; done) | (simp [results, Tryz.results92, go_sem, *, wO]; omega) | (simp [results, Tryz.results92, go_sem, *, wO]; grind)) rfl ⟨by first | rfl | (simp [*]; done), ?_⟩)
    all_goals (repeat' (first | (with_reducible exact Below.refl _ _) | (with_reducible refine Below.alloc ?_ ?_ _) | (with_reducible refine dJ ?_ ?_ _ _) | (with_reducible refine Below.setCell ?_ ?_ _) | (with_reducible refine Below.drew ?_) | (with_reducible refine gx ?_ _) | (with_reducible assumption) | (with_reducible refine bstep ?_ (by assumption) ?_) | (simp only [World.size_alloc, World.size_setCell, World.size_drew, World.heap_drewN, aC]; done) | (simp only [World.size_alloc, World.size_setCell, World.size_drew, World.heap_drewN, aC]; omega) | omega))
set_option maxRecDepth 100000 in
theorem sOverlaps_c (x n f z : Int) (w : World) (hn : n ≤ 4611686018427387904) : Calls Tryz.prog 132 #[.int .i64 x, .int .i64 n, .int .i64 f, .int .i64 z] w fun e w' => e = .returned (.bool (dM x n f z)) ∧ w = w' := by
  go_enter Tryz.func132, Tryz.ntmps132
  go_wp2
  go_loop [9] (fun i => ∃ k : Nat, k ≤ 65536 ∧ i = .int .i64 k ∧ Hid (∀ j : Int, 0 ≤ j → j < k → cj ((x + j) % 4294967296) f z = false)) (fun i => 65536 - (intOf i).toNat)
  case atStart => exact ⟨0, by omega, rfl, fun j h1 h2 => by omega⟩
  case round =>
    obtain ⟨k, hk, rfl, hno⟩ := hrel
    by_cases h1 : (k : Int) < n
    · by_cases h2 : k < 65536
      · cases hq : cj ((x + k) % 4294967296) f z
        all_goals
          have hk0 : (0 : Int) ≤ (k : Int) := Int.natCast_nonneg _
          have hk9 : (k : Int) < 65536 := by omega
          go_wp2_with (first | (go_at_call 96; with_reducible refine (bW _ _ _).mono ?_; rintro e w1 ⟨rfl, rfl⟩; rw [show sA x (k : Int) = (x + k) % 4294967296 from rfl]) | (go_at_call 123; with_reducible refine (sInWindow_c _ _ _ _).mono ?_; rintro e w1 ⟨rfl, rfl⟩))
        · go_round
          case rel => exact ⟨k + 1, by omega, by go_num, fun j hj1 hj2 => by
            by_cases h : j = k
            · subst h; exact hq
            · exact hno j hj1 (by omega)⟩
          case measure => simp [intOf]; omega
        · have hy := overlaps_yes (x := x) (n := n) (from_ := f) (size := z) (i := k) (by omega) h1 (by omega) hq
          refine bodyPost_ret (v := .bool (dM x n f z)) (by simp [results, Tryz.results132, hy]) rfl ⟨rfl, rfl⟩
      · obtain rfl : k = 65536 := by omega
        go_wp2
        have hy := overlaps_no (x := x) (n := n) (from_ := f) (size := z) (fun i a b c => hno i a (by omega))
        refine bodyPost_ret (v := .bool (dM x n f z)) (by simp [results, Tryz.results132, hy]) rfl ⟨rfl, rfl⟩
    · go_wp2
      have hy := overlaps_no (x := x) (n := n) (from_ := f) (size := z) (fun i a b c => hno i a (by omega))
      refine bodyPost_ret (v := .bool (dM x n f z)) (by simp [results, Tryz.results132, hy]) rfl ⟨rfl, rfl⟩
end Go.Proofs.YtccijpdjfelbmaaGreat
