/- Contracts (A4). -/
import Derived.Test.YtebgmdiejgcoiaaA3
import Derived.Test.YtebgmdiejgcoiaaG1
namespace Go.Proofs.Ytebgmdiejgcoiaa
open Go.RowKit
attribute [local go_sem] lt_gap le_gap eq_gap gap_eq lt_ones2 lt_ones3 lt_ones4 lt_ones5 lt_ones6 lt_ones7 lt_ones8 lt_gap_1 lt_gap_2 lt_gap_3 lt_gap_4 lt_gap_5 lt_gap_6 size_grow cell?_grow frozen?_grow setCell_grow drew_grow drewN_grow
attribute [local go_sem] boxOf_alloc_at boxOf_alloc_past boxOf_grow boxOf_drew boxOf_drewN isBox_alloc_at isBox_alloc_past isBox_grow isBox_drew isBox_drewN putAt_all putAt setCells_alloc_at setCells_alloc_past setCells_grow setCells_drew
set_option linter.unusedVariables false
set_option linter.unusedSimpArgs false

theorem sSeqDiff_c (a b : Int) (w : World) : Calls Try.prog 90 #[.int .i64 a, .int .i64 b] w fun e w' => e = .returned (.int .i64 (seqDiff a b)) ∧ w = w' := by
  go_enter Try.func90, Try.ntmps90
  go_wp2_with (first | (go_at_call 36; with_reducible refine (sRest_c _ _).mono ?_; rintro e w1 ⟨rfl, rfl⟩))
  all_goals (refine bodyPost_ret (v := .int .i64 (seqDiff a b)) (by first | (simp [results, Try.results90, go_sem, *, seqDiff]; done) | (simp [results, Try.results90, go_sem, *, seqDiff]; omega) | (simp [results, Try.results90, go_sem, *, seqDiff]; grind) | (simp [results, Try.results90, go_sem, *, seqDiff, IntKind.wrap_u32, IntKind.wrap_i32, IntKind.wrap_i64, wrap64, wrap32]; (try split) <;> omega)) rfl ⟨by first | rfl | (simp [*]; done), ?_⟩)
  all_goals rfl
theorem iSeqDiff_c (a b : Int) (w : World) : Calls Try.prog 98 #[.int .i64 a, .int .i64 b] w fun e w' => e = .returned (.int .i64 (seqDiff a b)) ∧ w = w' := by
  go_enter Try.func98, Try.ntmps98
  go_wp2
  all_goals (refine bodyPost_ret (v := .int .i64 (seqDiff a b)) (by first | (simp [results, Try.results98, go_sem, *, seqDiff]; done) | (simp [results, Try.results98, go_sem, *, seqDiff]; omega) | (simp [results, Try.results98, go_sem, *, seqDiff]; grind) | (simp [results, Try.results98, go_sem, *, seqDiff, IntKind.wrap_u32, IntKind.wrap_i32, IntKind.wrap_i64, wrap64, wrap32]; (try split) <;> omega)) rfl ⟨by first | rfl | (simp [*]; done), ?_⟩)
  all_goals rfl
theorem ahead_c (x f : Int) (w : World) : Calls Try.prog 43 #[.int .i64 x, .int .i64 f] w fun e w' => e = .returned (.int .i64 ((x - f) % 4294967296)) ∧ w = w' := by
  go_enter Try.func43, Try.ntmps43
  go_wp2
  all_goals (refine bodyPost_ret (v := .int .i64 ((x - f) % 4294967296)) (by first | (simp [results, Try.results43, go_sem, *, and_mask, wrap_mod]; done) | (simp [results, Try.results43, go_sem, *, and_mask, wrap_mod]; omega) | (simp [results, Try.results43, go_sem, *, and_mask, wrap_mod]; grind)) rfl ⟨by first | rfl | (simp [*]; done), ?_⟩)
  all_goals rfl
theorem iInWindow_c (x f z : Int) (w : World) : Calls Try.prog 95 #[.int .i64 x, .int .i64 f, .int .i64 z] w fun e w' => e = .returned (.bool (inWindow x f z)) ∧ w = w' := by
  go_enter Try.func95, Try.ntmps95
  go_wp2_with (first | (go_at_call 43; with_reducible refine (ahead_c _ _ _).mono ?_; rintro e w1 ⟨rfl, rfl⟩))
  all_goals (refine bodyPost_ret (v := .bool (inWindow x f z)) (by first | (simp [results, Try.results95, go_sem, *, inWindow]; done) | (simp [results, Try.results95, go_sem, *, inWindow]; omega) | (simp [results, Try.results95, go_sem, *, inWindow]; grind)) rfl ⟨by first | rfl | (simp [*]; done), ?_⟩)
  all_goals rfl
theorem sInWindow_c (x f z : Int) (w : World) : Calls Try.prog 87 #[.int .i64 x, .int .i64 f, .int .i64 z] w fun e w' => e = .returned (.bool (inWindow x f z)) ∧ w = w' := by
  go_enter Try.func87, Try.ntmps87
  go_wp2_with (first | (go_at_call 36; with_reducible refine (sRest_c _ _).mono ?_; rintro e w1 ⟨rfl, rfl⟩))
  all_goals (refine bodyPost_ret (v := .bool (inWindow x f z)) (by first | (simp [results, Try.results87, go_sem, *, inWindow]; done) | (simp [results, Try.results87, go_sem, *, inWindow]; omega) | (simp [results, Try.results87, go_sem, *, inWindow]; grind)) rfl ⟨by first | rfl | (simp [*]; done), ?_⟩)
  all_goals rfl
theorem iOverlaps_c (x n f z : Int) (w : World) : Calls Try.prog 117 #[.int .i64 x, .int .i64 n, .int .i64 f, .int .i64 z] w fun e w' => e = .returned (.bool (overlaps x n f z)) ∧ w = w' := by
  go_enter Try.func117, Try.ntmps117
  go_wp2_with (first | (go_at_call 43; with_reducible refine (ahead_c _ _ _).mono ?_; rintro e w1 ⟨rfl, rfl⟩) | (go_at_call 95; with_reducible refine (iInWindow_c _ _ _ _).mono ?_; rintro e w1 ⟨rfl, rfl⟩))
  all_goals (refine bodyPost_ret (v := .bool (overlaps x n f z)) (by first | (simp [results, Try.results117, go_sem, *, overlaps]; done) | (simp [results, Try.results117, go_sem, *, overlaps]; omega) | (simp [results, Try.results117, go_sem, *, overlaps]; grind)) rfl ⟨by first | rfl | (simp [*]; done), ?_⟩)
  all_goals rfl
theorem sFlown_c (a_una : Int) (a_data : ByteArray) (a_sent : Int) (a_fin : Bool) (a_finSent : Bool) (a_done : Bool) (w : World) : Calls Try.prog 54 #[.agg #[.int .i64 a_una, .string a_data, .int .i64 a_sent, .bool a_fin, .bool a_finSent, .bool a_done]] w fun e w' => e = .returned (.int .i64 (flown ⟨a_una, a_data, a_sent, a_fin, a_finSent, a_done⟩)) ∧ Below w.heap.size w w' := by
  go_enter Try.func54, Try.ntmps54
  go_wp2
  all_goals (refine bodyPost_ret (v := .int .i64 (flown ⟨a_una, a_data, a_sent, a_fin, a_finSent, a_done⟩)) (by first | (simp [results, Try.results54, go_sem, *, flown]; done) | (simp [results, Try.results54, go_sem, *, flown]; omega) | (simp [results, Try.results54, go_sem, *, flown]; grind)) rfl ⟨by first | rfl | (simp [*]; done), ?_⟩)
  all_goals (repeat' (first | (with_reducible exact Below.refl _ _) | (with_reducible refine Below.alloc ?_ ?_ _) | (with_reducible refine belowGrow ?_ ?_ _ _) | (with_reducible refine Below.setCell ?_ ?_ _) | (with_reducible refine Below.drew ?_) | (with_reducible refine bdrewN ?_ _) | (with_reducible assumption) | (with_reducible refine bstep ?_ (by assumption) ?_) | (simp only [World.size_alloc, World.size_setCell, World.size_drew, World.heap_drewN, size_grow]; done) | (simp only [World.size_alloc, World.size_setCell, World.size_drew, World.heap_drewN, size_grow]; omega) | omega))
theorem sSenderOk_c (a_una : Int) (a_data : ByteArray) (a_sent : Int) (a_fin : Bool) (a_finSent : Bool) (a_done : Bool) (w : World) : Calls Try.prog 91 #[.agg #[.int .i64 a_una, .string a_data, .int .i64 a_sent, .bool a_fin, .bool a_finSent, .bool a_done]] w fun e w' => e = .returned (.bool (senderOk ⟨a_una, a_data, a_sent, a_fin, a_finSent, a_done⟩)) ∧ Below w.heap.size w w' := by
  go_enter Try.func91, Try.ntmps91
  go_wp2_with (first | (go_at_call 79; with_reducible refine (sWordOk32_c _ _).mono ?_; rintro e w1 ⟨rfl, rfl⟩) | (go_at_call 79; with_reducible refine (sWordOk16_c _ _).mono ?_; rintro e w1 ⟨rfl, rfl⟩) | (go_at_call 79; with_reducible refine (sWordOk6_c _ _).mono ?_; rintro e w1 ⟨rfl, rfl⟩) | (go_at_call 55; with_reducible refine (l1In_c _ _ _ _).mono ?_; rintro e w1 ⟨rfl, rfl⟩))
  all_goals (refine bodyPost_ret (v := .bool (senderOk ⟨a_una, a_data, a_sent, a_fin, a_finSent, a_done⟩)) (by first | (simp [results, Try.results91, go_sem, *, senderOk]; done) | (simp [results, Try.results91, go_sem, *, senderOk]; omega) | (simp [results, Try.results91, go_sem, *, senderOk]; grind)) rfl ⟨by first | rfl | (simp [*]; done), ?_⟩)
  all_goals (repeat' (first | (with_reducible exact Below.refl _ _) | (with_reducible refine Below.alloc ?_ ?_ _) | (with_reducible refine belowGrow ?_ ?_ _ _) | (with_reducible refine Below.setCell ?_ ?_ _) | (with_reducible refine Below.drew ?_) | (with_reducible refine bdrewN ?_ _) | (with_reducible assumption) | (with_reducible refine bstep ?_ (by assumption) ?_) | (simp only [World.size_alloc, World.size_setCell, World.size_drew, World.heap_drewN, size_grow]; done) | (simp only [World.size_alloc, World.size_setCell, World.size_drew, World.heap_drewN, size_grow]; omega) | omega))
theorem sWindowOf_c (r_next : Int) (r_data : ByteArray) (r_held : List Pce) (r_held_v : Value) (r_fin : Int) (r_done : Bool) (w : World) (hsz : r_data.size ≤ 4611686018427387904) : Calls Try.prog 34 #[.agg #[.int .i64 r_next, .string r_data, r_held_v, .int .i64 r_fin, .bool r_done]] w fun e w' => e = .returned (.int .i64 (windowOf ⟨r_next, r_data, r_held, r_fin, r_done⟩)) ∧ Below w.heap.size w w' := by
  by_cases h : r_done = true
  all_goals
    go_enter Try.func34, Try.ntmps34
    go_wp2_with (first | (go_at_call 52; with_reducible refine (l1Min_c _ _ _).mono ?_; rintro e w1 ⟨rfl, rfl⟩) | (go_at_call 53; with_reducible refine (l1Max_c _ _ _).mono ?_; rintro e w1 ⟨rfl, rfl⟩))
    all_goals (refine bodyPost_ret (v := .int .i64 (windowOf ⟨r_next, r_data, r_held, r_fin, r_done⟩)) (by first | (simp [results, Try.results34, go_sem, *, windowOf]; done) | (simp [results, Try.results34, go_sem, *, windowOf]; omega) | (simp [results, Try.results34, go_sem, *, windowOf]; grind)) rfl ⟨by first | rfl | (simp [*]; done), ?_⟩)
    all_goals (repeat' (first | (with_reducible exact Below.refl _ _) | (with_reducible refine Below.alloc ?_ ?_ _) | (with_reducible refine belowGrow ?_ ?_ _ _) | (with_reducible refine Below.setCell ?_ ?_ _) | (with_reducible refine Below.drew ?_) | (with_reducible refine bdrewN ?_ _) | (with_reducible assumption) | (with_reducible refine bstep ?_ (by assumption) ?_) | (simp only [World.size_alloc, World.size_setCell, World.size_drew, World.heap_drewN, size_grow]; done) | (simp only [World.size_alloc, World.size_setCell, World.size_drew, World.heap_drewN, size_grow]; omega) | omega))
theorem iFlown_c (a_una : Int) (a_data : ByteArray) (a_sent : Int) (a_fin : Bool) (a_finSent : Bool) (a_done : Bool) (w : World) : Calls Try.prog 65 #[.agg #[.int .i64 a_una, .string a_data, .int .i64 a_sent, .bool a_fin, .bool a_finSent, .bool a_done]] w fun e w' => e = .returned (.int .i64 (flown ⟨a_una, a_data, a_sent, a_fin, a_finSent, a_done⟩)) ∧ Below w.heap.size w w' := by
  go_enter Try.func65, Try.ntmps65
  go_wp2
  all_goals (refine bodyPost_ret (v := .int .i64 (flown ⟨a_una, a_data, a_sent, a_fin, a_finSent, a_done⟩)) (by first | (simp [results, Try.results65, go_sem, *, flown]; done) | (simp [results, Try.results65, go_sem, *, flown]; omega) | (simp [results, Try.results65, go_sem, *, flown]; grind)) rfl ⟨by first | rfl | (simp [*]; done), ?_⟩)
  all_goals (repeat' (first | (with_reducible exact Below.refl _ _) | (with_reducible refine Below.alloc ?_ ?_ _) | (with_reducible refine belowGrow ?_ ?_ _ _) | (with_reducible refine Below.setCell ?_ ?_ _) | (with_reducible refine Below.drew ?_) | (with_reducible refine bdrewN ?_ _) | (with_reducible assumption) | (with_reducible refine bstep ?_ (by assumption) ?_) | (simp only [World.size_alloc, World.size_setCell, World.size_drew, World.heap_drewN, size_grow]; done) | (simp only [World.size_alloc, World.size_setCell, World.size_drew, World.heap_drewN, size_grow]; omega) | omega))
theorem iSenderOk_c (a_una : Int) (a_data : ByteArray) (a_sent : Int) (a_fin : Bool) (a_finSent : Bool) (a_done : Bool) (w : World) : Calls Try.prog 99 #[.agg #[.int .i64 a_una, .string a_data, .int .i64 a_sent, .bool a_fin, .bool a_finSent, .bool a_done]] w fun e w' => e = .returned (.bool (senderOk ⟨a_una, a_data, a_sent, a_fin, a_finSent, a_done⟩)) ∧ Below w.heap.size w w' := by
  go_enter Try.func99, Try.ntmps99
  go_wp2_with (first | (go_at_call 76; with_reducible refine (iWordOk32_c _ _).mono ?_; rintro e w1 ⟨rfl, rfl⟩) | (go_at_call 76; with_reducible refine (iWordOk16_c _ _).mono ?_; rintro e w1 ⟨rfl, rfl⟩) | (go_at_call 76; with_reducible refine (iWordOk6_c _ _).mono ?_; rintro e w1 ⟨rfl, rfl⟩) | (go_at_call 77; with_reducible refine (within_c _ _ _ _).mono ?_; rintro e w1 ⟨rfl, rfl⟩))
  all_goals (refine bodyPost_ret (v := .bool (senderOk ⟨a_una, a_data, a_sent, a_fin, a_finSent, a_done⟩)) (by first | (simp [results, Try.results99, go_sem, *, senderOk]; done) | (simp [results, Try.results99, go_sem, *, senderOk]; omega) | (simp [results, Try.results99, go_sem, *, senderOk]; grind)) rfl ⟨by first | rfl | (simp [*]; done), ?_⟩)
  all_goals (repeat' (first | (with_reducible exact Below.refl _ _) | (with_reducible refine Below.alloc ?_ ?_ _) | (with_reducible refine belowGrow ?_ ?_ _ _) | (with_reducible refine Below.setCell ?_ ?_ _) | (with_reducible refine Below.drew ?_) | (with_reducible refine bdrewN ?_ _) | (with_reducible assumption) | (with_reducible refine bstep ?_ (by assumption) ?_) | (simp only [World.size_alloc, World.size_setCell, World.size_drew, World.heap_drewN, size_grow]; done) | (simp only [World.size_alloc, World.size_setCell, World.size_drew, World.heap_drewN, size_grow]; omega) | omega))
theorem iWindowOf_c (r_next : Int) (r_data : ByteArray) (r_held : List Pce) (r_held_v : Value) (r_fin : Int) (r_done : Bool) (w : World) (hsz : r_data.size ≤ 4611686018427387904) : Calls Try.prog 41 #[.agg #[.int .i64 r_next, .string r_data, r_held_v, .int .i64 r_fin, .bool r_done]] w fun e w' => e = .returned (.int .i64 (windowOf ⟨r_next, r_data, r_held, r_fin, r_done⟩)) ∧ Below w.heap.size w w' := by
  by_cases h : r_done = true
  all_goals
    go_enter Try.func41, Try.ntmps41
    go_wp2_with (first | (go_at_call 52; with_reducible refine (l1Min_c _ _ _).mono ?_; rintro e w1 ⟨rfl, rfl⟩) | (go_at_call 53; with_reducible refine (l1Max_c _ _ _).mono ?_; rintro e w1 ⟨rfl, rfl⟩))
    all_goals (refine bodyPost_ret (v := .int .i64 (windowOf ⟨r_next, r_data, r_held, r_fin, r_done⟩)) (by first | (simp [results, Try.results41, go_sem, *, windowOf]; done) | (simp [results, Try.results41, go_sem, *, windowOf]; omega) | (simp [results, Try.results41, go_sem, *, windowOf]; grind)) rfl ⟨by first | rfl | (simp [*]; done), ?_⟩)
    all_goals (repeat' (first | (with_reducible exact Below.refl _ _) | (with_reducible refine Below.alloc ?_ ?_ _) | (with_reducible refine belowGrow ?_ ?_ _ _) | (with_reducible refine Below.setCell ?_ ?_ _) | (with_reducible refine Below.drew ?_) | (with_reducible refine bdrewN ?_ _) | (with_reducible assumption) | (with_reducible refine bstep ?_ (by assumption) ?_) | (simp only [World.size_alloc, World.size_setCell, World.size_drew, World.heap_drewN, size_grow]; done) | (simp only [World.size_alloc, World.size_setCell, World.size_drew, World.heap_drewN, size_grow]; omega) | omega))
theorem toSender_c (a_una : Int) (a_data : ByteArray) (a_sent : Int) (a_fin : Bool) (a_finSent : Bool) (a_done : Bool) (w : World) : Calls Try.prog 59 #[.agg #[.int .i64 a_una, .string a_data, .int .i64 a_sent, .bool a_fin, .bool a_finSent, .bool a_done]] w fun e w' => e = .returned (.agg #[.int .i64 a_una, .string a_data, .int .i64 a_sent, .bool a_fin, .bool a_finSent, .bool a_done]) ∧ Below w.heap.size w w' := by
  go_enter Try.func59, Try.ntmps59
  go_wp2
  all_goals (refine bodyPost_ret (v := .agg #[.int .i64 a_una, .string a_data, .int .i64 a_sent, .bool a_fin, .bool a_finSent, .bool a_done]) (by first | (simp [results, Try.results59, go_sem, *]; done) | (simp [results, Try.results59, go_sem, *]; omega) | (simp [results, Try.results59, go_sem, *]; grind)) rfl ⟨by first | rfl | (simp [*]; done), ?_⟩)
  all_goals (repeat' (first | (with_reducible exact Below.refl _ _) | (with_reducible refine Below.alloc ?_ ?_ _) | (with_reducible refine belowGrow ?_ ?_ _ _) | (with_reducible refine Below.setCell ?_ ?_ _) | (with_reducible refine Below.drew ?_) | (with_reducible refine bdrewN ?_ _) | (with_reducible assumption) | (with_reducible refine bstep ?_ (by assumption) ?_) | (simp only [World.size_alloc, World.size_setCell, World.size_drew, World.heap_drewN, size_grow]; done) | (simp only [World.size_alloc, World.size_setCell, World.size_drew, World.heap_drewN, size_grow]; omega) | omega))
theorem eqSender_c (a_una : Int) (a_data : ByteArray) (a_sent : Int) (a_fin : Bool) (a_finSent : Bool) (a_done : Bool) (w : World) : Calls Try.prog 69 #[.agg #[.int .i64 a_una, .string a_data, .int .i64 a_sent, .bool a_fin, .bool a_finSent, .bool a_done], .agg #[.int .i64 a_una, .string a_data, .int .i64 a_sent, .bool a_fin, .bool a_finSent, .bool a_done]] w fun e w' => e = .returned (.bool true) ∧ Below w.heap.size w w' := by
  go_enter Try.func69, Try.ntmps69
  go_wp2
  all_goals (refine bodyPost_ret (v := .bool true) (by first | (simp [results, Try.results69, go_sem, *]; done) | (simp [results, Try.results69, go_sem, *]; omega) | (simp [results, Try.results69, go_sem, *]; grind)) rfl ⟨by first | rfl | (simp [*]; done), ?_⟩)
  all_goals (repeat' (first | (with_reducible exact Below.refl _ _) | (with_reducible refine Below.alloc ?_ ?_ _) | (with_reducible refine belowGrow ?_ ?_ _ _) | (with_reducible refine Below.setCell ?_ ?_ _) | (with_reducible refine Below.drew ?_) | (with_reducible refine bdrewN ?_ _) | (with_reducible assumption) | (with_reducible refine bstep ?_ (by assumption) ?_) | (simp only [World.size_alloc, World.size_setCell, World.size_drew, World.heap_drewN, size_grow]; done) | (simp only [World.size_alloc, World.size_setCell, World.size_drew, World.heap_drewN, size_grow]; omega) | omega))
set_option maxRecDepth 100000 in
theorem sOverlaps_c (x n f z : Int) (w : World) (hn : n ≤ 4611686018427387904) : Calls Try.prog 113 #[.int .i64 x, .int .i64 n, .int .i64 f, .int .i64 z] w fun e w' => e = .returned (.bool (overlaps x n f z)) ∧ w = w' := by
  go_enter Try.func113, Try.ntmps113
  go_wp2
  go_loop [9] (fun i => ∃ k : Nat, k ≤ 65536 ∧ i = .int .i64 k ∧ Hid (∀ j : Int, 0 ≤ j → j < k → inWindow ((x + j) % 4294967296) f z = false)) (fun i => 65536 - (intOf i).toNat)
  case atStart => exact ⟨0, by omega, rfl, fun j h1 h2 => by omega⟩
  case round =>
    obtain ⟨k, hk, rfl, hno⟩ := hrel
    by_cases h1 : (k : Int) < n
    · by_cases h2 : k < 65536
      · cases hq : inWindow ((x + k) % 4294967296) f z
        all_goals
          have hk0 : (0 : Int) ≤ (k : Int) := Int.natCast_nonneg _
          have hk9 : (k : Int) < 65536 := by omega
          go_wp2_with (first | (go_at_call 28; with_reducible refine (sSeqAdd_c _ _ _).mono ?_; rintro e w1 ⟨rfl, rfl⟩; rw [show seqAdd x (k : Int) = (x + k) % 4294967296 from rfl]) | (go_at_call 87; with_reducible refine (sInWindow_c _ _ _ _).mono ?_; rintro e w1 ⟨rfl, rfl⟩))
        · go_round
          case rel => exact ⟨k + 1, by omega, by go_num, fun j hj1 hj2 => by
            by_cases h : j = k
            · subst h; exact hq
            · exact hno j hj1 (by omega)⟩
          case measure => simp [intOf]; omega
        · have hy := overlaps_yes (x := x) (n := n) (from_ := f) (size := z) (i := k) (by omega) h1 (by omega) hq
          refine bodyPost_ret (v := .bool (overlaps x n f z)) (by simp [results, Try.results113, hy]) rfl ⟨rfl, rfl⟩
      · obtain rfl : k = 65536 := by omega
        go_wp2
        have hy := overlaps_no (x := x) (n := n) (from_ := f) (size := z) (fun i a b c => hno i a (by omega))
        refine bodyPost_ret (v := .bool (overlaps x n f z)) (by simp [results, Try.results113, hy]) rfl ⟨rfl, rfl⟩
    · go_wp2
      have hy := overlaps_no (x := x) (n := n) (from_ := f) (size := z) (fun i a b c => hno i a (by omega))
      refine bodyPost_ret (v := .bool (overlaps x n f z)) (by simp [results, Try.results113, hy]) rfl ⟨rfl, rfl⟩
end Go.Proofs.Ytebgmdiejgcoiaa
