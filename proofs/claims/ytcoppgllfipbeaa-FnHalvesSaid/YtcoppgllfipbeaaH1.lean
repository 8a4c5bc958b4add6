/- Contracts: half-open connections (find, same). -/
import Derived.Test.YtcoppgllfipbeaaA2
import Derived.Test.YtcoppgllfipbeaaE
import Derived.Test.YtcoppgllfipbeaaR
import Derived.Test.YtcoppgllfipbeaaQ
import Derived.Deep.QuietTactic
import Derived.BigQuiet
import Derived.Deep.RegionHeld3
namespace Go.Proofs.Ytcoppgllfipbeaa
open Go.RowKit
attribute [local go_sem] lt_gap le_gap eq_gap gap_eq lt_ones2 lt_ones3 lt_ones4 lt_ones5 lt_ones6 lt_ones7 lt_ones8 lt_gap_1 lt_gap_2 lt_gap_3 lt_gap_4 lt_gap_5 lt_gap_6 size_grow cell?_grow frozen?_grow setCell_grow drew_grow drewN_grow
attribute [local go_sem] boxOf_alloc_at boxOf_alloc_past boxOf_grow boxOf_drew boxOf_drewN isBox_alloc_at isBox_alloc_past isBox_grow isBox_drew isBox_drewN putAt_all putAt setCells_alloc_at setCells_alloc_past setCells_grow setCells_drew
attribute [local go_sem ↓] run_eql_TUP run_neq_HLF
set_option linter.unusedVariables false
set_option linter.unusedSimpArgs false

def findHalf (l : List Hlf) (t : Tup) : Int := idxOf (l.findIdx? (fun h => tupEq h.t t))

theorem sFindHalf_c (v : Value) (l : List Hlf) (t_ip : Int) (t_port : Int) (t_my : Int) (w : World) (hl : Sl w v 13 (l.map hlfCells)) : Calls Try.prog 69 #[v, .agg #[.int .i64 t_ip, .int .i64 t_port, .int .i64 t_my]] w fun e w' => e = .returned (.int .i64 (findHalf l ⟨t_ip, t_port, t_my⟩)) ∧ Below w.heap.size w w' := by
  obtain ⟨a, cap, rfl, h2, h3, h4, h5⟩ := hl
  simp only [List.length_map] at h2 ⊢
  unfold maxLen at h3
  have H5 := Lib.hid h5; clear h5
  go_enter Try.func69, Try.ntmps69
  go_wp2
  go_loopw [5] (fun i wr => ∃ k : Nat, k ≤ l.length ∧ i = .int .i64 k ∧ Hid (∀ (i : Nat) (h' : Hlf), i < k → l[i]? = some h' → tupEq h'.t ⟨t_ip, t_port, t_my⟩ = false) ∧ ∃ n, wr = (w.alloc (.cells #[.int .i64 t_ip, .int .i64 t_port, .int .i64 t_my] 36)).drewN n) (fun i _ => l.length - (intOf i).toNat)
  case atStart => exact ⟨0, Nat.zero_le _, rfl, fun i h' hi => by omega, 0, rfl⟩
  case round =>
    obtain ⟨k, hk, rfl, hno, n, rfl⟩ := hrel
    by_cases hlt : k < l.length
    · obtain ⟨x, hx⟩ : ∃ x, l[k]? = some x := ⟨_, List.getElem?_eq_getElem hlt⟩
      obtain ⟨b, off, rfl, hbw, hr⟩ := H5.out k (hlfCells x) (by simp [hx])
      have HX := Lib.hid hx; clear hx
      obtain ⟨⟨ip, port, my⟩, iss, irs, o, age, win⟩ := x
      have c0 := hr 0 _ rfl
      have c1 := hr 1 _ rfl
      have c2 := hr 2 _ rfl
      simp only [Nat.add_zero] at c0
      clear hr
      have hk0 : (0 : Int) ≤ (k : Int) := Int.natCast_nonneg _
      have hk1 : (k : Int) < (l.length : Int) := by omega
      have hb1 : ∀ j, b < w.heap.size + j := fun j => by omega
      have hb2 : ∀ j, b ≤ w.heap.size + j := fun j => by omega
      cases hq : tupEq ⟨ip, port, my⟩ ⟨t_ip, t_port, t_my⟩
      · go_wp2
        go_quiet (fail)
        go_wp2
        go_roundw
        case rel => exact ⟨k + 1, by omega, by go_num, fun i h' hi hh => by
          rcases Nat.lt_succ_iff_lt_or_eq.1 hi with h | rfl
          · exact hno i h' h hh
          · have := HX.out.symm.trans hh; simp only [Option.some.injEq] at this; subst this; exact hq, _, rfl⟩
        case measure => simp [intOf]; omega
      · go_wp2
        go_quiet (fail)
        go_wp2
        refine bodyPost_ret (v := .int .i64 (findHalf l ⟨t_ip, t_port, t_my⟩)) (by simp [results, Try.results69, findHalf, idxOf, findIdx_eq HX.out hq hno]) rfl ⟨rfl, ?_⟩
        (repeat' (first | (with_reducible exact Below.refl _ _) | (with_reducible refine Below.alloc ?_ ?_ _) | (with_reducible refine belowGrow ?_ ?_ _ _) | (with_reducible refine Below.setCell ?_ ?_ _) | (with_reducible refine Below.drew ?_) | (with_reducible refine bdrewN ?_ _) | (with_reducible assumption) | (with_reducible refine bstep ?_ (by assumption) ?_) | (simp only [World.size_alloc, World.size_setCell, World.size_drew, World.heap_drewN, size_grow]; done) | (simp only [World.size_alloc, World.size_setCell, World.size_drew, World.heap_drewN, size_grow]; omega) | omega))
    · go_wp2
      refine bodyPost_ret (v := .int .i64 (findHalf l ⟨t_ip, t_port, t_my⟩)) (by simp [results, Try.results69, findHalf, idxOf, findIdx_no (fun i h' hh => hno i h' (by have := (List.getElem?_eq_some_iff.1 hh).1; omega) hh)]) rfl ⟨rfl, ?_⟩
      (repeat' (first | (with_reducible exact Below.refl _ _) | (with_reducible refine Below.alloc ?_ ?_ _) | (with_reducible refine belowGrow ?_ ?_ _ _) | (with_reducible refine Below.setCell ?_ ?_ _) | (with_reducible refine Below.drew ?_) | (with_reducible refine bdrewN ?_ _) | (with_reducible assumption) | (with_reducible refine bstep ?_ (by assumption) ?_) | (simp only [World.size_alloc, World.size_setCell, World.size_drew, World.heap_drewN, size_grow]; done) | (simp only [World.size_alloc, World.size_setCell, World.size_drew, World.heap_drewN, size_grow]; omega) | omega))

theorem iFindHalf1_c (h_t_ip : Int) (h_t_port : Int) (h_t_my : Int) (h_iss : Int) (h_irs : Int) (h_o_mss : Int) (h_o_scale : Int) (h_o_sack : Bool) (h_o_stamp : Bool) (h_o_val : Int) (h_o_echo : Int) (h_age : Int) (h_window : Int) (t_ip : Int) (t_port : Int) (t_my : Int) (bt : Nat) (w : World) (hw : bt < w.heap.size) (t0 : w.cell? ⟨bt, 0, none⟩ = some (.int .i64 t_ip)) (t1 : w.cell? ⟨bt, 1, none⟩ = some (.int .i64 t_port)) (t2 : w.cell? ⟨bt, 2, none⟩ = some (.int .i64 t_my)) :
    Calls Try.prog 72 #[.agg #[.int .i64 h_t_ip, .int .i64 h_t_port, .int .i64 h_t_my, .int .i64 h_iss, .int .i64 h_irs, .int .i64 h_o_mss, .int .i64 h_o_scale, .bool h_o_sack, .bool h_o_stamp, .int .i64 h_o_val, .int .i64 h_o_echo, .int .i64 h_age, .int .i64 h_window], .pointer (some ⟨bt, 0, none⟩)] w fun e w' => e = .returned (.bool (tupEq ⟨h_t_ip, h_t_port, h_t_my⟩ ⟨t_ip, t_port, t_my⟩)) ∧ Below w.heap.size w w' := by
  have hb1 : ∀ j, bt < w.heap.size + j := fun j => by omega
  have hb2 : ∀ j, bt ≤ w.heap.size + j := fun j => by omega
  go_enter Try.func72, Try.ntmps72
  go_wp2
  refine bodyPost_ret (v := .bool (tupEq ⟨h_t_ip, h_t_port, h_t_my⟩ ⟨t_ip, t_port, t_my⟩)) (by simp [results, Try.results72, *]) rfl ⟨rfl, ?_⟩
  (repeat' (first | (with_reducible exact Below.refl _ _) | (with_reducible refine Below.alloc ?_ ?_ _) | (with_reducible refine belowGrow ?_ ?_ _ _) | (with_reducible refine Below.setCell ?_ ?_ _) | (with_reducible refine Below.drew ?_) | (with_reducible refine bdrewN ?_ _) | (with_reducible assumption) | (with_reducible refine bstep ?_ (by assumption) ?_) | (simp only [World.size_alloc, World.size_setCell, World.size_drew, World.heap_drewN, size_grow]; done) | (simp only [World.size_alloc, World.size_setCell, World.size_drew, World.heap_drewN, size_grow]; omega) | omega))
theorem iIndexHalf_c (v : Value) (l : List Hlf) (t_ip : Int) (t_port : Int) (t_my : Int) (bt : Nat) (w : World) (hl : Sl w v 13 (l.map hlfCells)) (hw : bt < w.heap.size) (t0 : w.cell? ⟨bt, 0, none⟩ = some (.int .i64 t_ip)) (t1 : w.cell? ⟨bt, 1, none⟩ = some (.int .i64 t_port)) (t2 : w.cell? ⟨bt, 2, none⟩ = some (.int .i64 t_my)) :
    Calls Try.prog 71 #[v, .func (.func 72) #[] #[.pointer (some ⟨bt, 0, none⟩)]] w fun e w' => e = .returned (.int .i64 (findHalf l ⟨t_ip, t_port, t_my⟩)) ∧ Below w.heap.size w w' := by
  obtain ⟨a, cap, rfl, h2, h3, h4, h5⟩ := hl
  simp only [List.length_map] at h2 ⊢
  unfold maxLen at h3
  have H5 := Lib.hid h5; clear h5
  go_enter Try.func71, Try.ntmps71
  go_wp2
  go_loopw [8] (fun i wr => ∃ k : Nat, k ≤ l.length ∧ i = .int .i64 k ∧ Hid (∀ (i : Nat) (h' : Hlf), i < k → l[i]? = some h' → tupEq h'.t ⟨t_ip, t_port, t_my⟩ = false) ∧ Below w.heap.size w wr) (fun i _ => l.length - (intOf i).toNat)
  case atStart => exact ⟨0, Nat.zero_le _, rfl, fun i h' hi => by omega, Below.refl _ _⟩
  case round =>
    obtain ⟨k, hk, rfl, hno, hB⟩ := hrel
    by_cases hlt : k < l.length
    · obtain ⟨x, hx⟩ : ∃ x, l[k]? = some x := ⟨_, List.getElem?_eq_getElem hlt⟩
      obtain ⟨b, off, rfl, hbw, hr⟩ := H5.out k (hlfCells x) (by simp [hx])
      have hr := Below.rangeAt hB hbw hr
      have HX := Lib.hid hx; clear hx
      obtain ⟨⟨x_t_ip, x_t_port, x_t_my⟩, x_iss, x_irs, ⟨x_o_mss, x_o_scale, x_o_sack, x_o_stamp, x_o_val, x_o_echo⟩, x_age, x_window⟩ := x
      have c0 := hr 0 _ rfl
      have c1 := hr 1 _ rfl
      have c2 := hr 2 _ rfl
      have c3 := hr 3 _ rfl
      have c4 := hr 4 _ rfl
      have c5 := hr 5 _ rfl
      have c6 := hr 6 _ rfl
      have c7 := hr 7 _ rfl
      have c8 := hr 8 _ rfl
      have c9 := hr 9 _ rfl
      have c10 := hr 10 _ rfl
      have c11 := hr 11 _ rfl
      have c12 := hr 12 _ rfl
      simp only [Nat.add_zero] at c0
      clear hr
      have hk0 : (0 : Int) ≤ (k : Int) := Int.natCast_nonneg _
      have hk1 : (k : Int) < (l.length : Int) := by omega
      have hw' : bt < wr.heap.size := by have := hB.size; omega
      cases hq : tupEq ⟨x_t_ip, x_t_port, x_t_my⟩ ⟨t_ip, t_port, t_my⟩
      · go_wp2_with (go_at_call 72; with_reducible refine (iFindHalf1_c _ _ _ _ _ _ _ _ _ _ _ _ _ t_ip t_port t_my _ _ hw' ((hB.cell (p := ⟨bt, 0, none⟩) hw).trans t0) ((hB.cell (p := ⟨bt, 1, none⟩) hw).trans t1) ((hB.cell (p := ⟨bt, 2, none⟩) hw).trans t2)).mono ?_; rintro e w2 ⟨rfl, hb2⟩)
        go_roundw
        case rel => exact ⟨k + 1, by omega, by go_num, fun i h' hi hh => by
          rcases Nat.lt_succ_iff_lt_or_eq.1 hi with h | rfl
          · exact hno i h' h hh
          · have := HX.out.symm.trans hh; simp only [Option.some.injEq] at this; subst this; exact hq, bstep hB hb2 hB.size⟩
        case measure => simp [intOf]; omega
      · go_wp2_with (go_at_call 72; with_reducible refine (iFindHalf1_c _ _ _ _ _ _ _ _ _ _ _ _ _ t_ip t_port t_my _ _ hw' ((hB.cell (p := ⟨bt, 0, none⟩) hw).trans t0) ((hB.cell (p := ⟨bt, 1, none⟩) hw).trans t1) ((hB.cell (p := ⟨bt, 2, none⟩) hw).trans t2)).mono ?_; rintro e w2 ⟨rfl, hb2⟩)
        refine bodyPost_ret (v := .int .i64 (findHalf l ⟨t_ip, t_port, t_my⟩)) (by simp [results, Try.results71, findHalf, idxOf, findIdx_eq HX.out hq hno]) rfl ⟨rfl, bstep hB hb2 hB.size⟩
    · go_wp2
      refine bodyPost_ret (v := .int .i64 (findHalf l ⟨t_ip, t_port, t_my⟩)) (by simp [results, Try.results71, findHalf, idxOf, findIdx_no (fun i h' hh => hno i h' (by have := (List.getElem?_eq_some_iff.1 hh).1; omega) hh)]) rfl ⟨rfl, hB⟩
theorem iFindHalf_c (v : Value) (l : List Hlf) (t_ip : Int) (t_port : Int) (t_my : Int) (w : World) (hl : Sl w v 13 (l.map hlfCells)) : Calls Try.prog 35 #[v, .agg #[.int .i64 t_ip, .int .i64 t_port, .int .i64 t_my]] w fun e w' => e = .returned (.int .i64 (findHalf l ⟨t_ip, t_port, t_my⟩)) ∧ Below w.heap.size w w' := by
  have hl1 : Sl (w.alloc (.cells #[.int .i64 t_ip, .int .i64 t_port, .int .i64 t_my] 36)) v 13 (l.map hlfCells) := hl.kept ((Below.refl w.heap.size _).alloc (Nat.le_refl _) _) (Nat.le_refl _)
  have HL := Lib.hid hl1; clear hl1 hl
  go_enter Try.func35, Try.ntmps35
  go_wp2_with (go_at_call 71; with_reducible refine (iIndexHalf_c _ l t_ip t_port t_my _ _ HL.out (by simp) (by simp) (by simp) (by simp)).mono ?_; rintro e w1 ⟨rfl, hb1⟩; obtain ⟨d1, os1, rfl⟩ := below_grow hb1; clear hb1)
  refine bodyPost_ret (v := .int .i64 (findHalf l ⟨t_ip, t_port, t_my⟩)) (by simp [results, Try.results35, *]) rfl ⟨rfl, ?_⟩
  (repeat' (first | (with_reducible exact Below.refl _ _) | (with_reducible refine Below.alloc ?_ ?_ _) | (with_reducible refine belowGrow ?_ ?_ _ _) | (with_reducible refine Below.setCell ?_ ?_ _) | (with_reducible refine Below.drew ?_) | (with_reducible refine bdrewN ?_ _) | (with_reducible assumption) | (with_reducible refine bstep ?_ (by assumption) ?_) | (simp only [World.size_alloc, World.size_setCell, World.size_drew, World.heap_drewN, size_grow]; done) | (simp only [World.size_alloc, World.size_setCell, World.size_drew, World.heap_drewN, size_grow]; omega) | omega))

theorem sSameHalves_c (v u : Value) (l m : List Hlf) (w : World) (hl : Sl w v 13 (l.map hlfCells)) (hu : Sl w u 13 (m.map hlfCells)) : Calls Try.prog 30 #[v, u] w fun e w' => e = .returned (.bool (sameL hlfEq l m)) ∧ Below w.heap.size w w' := by
  obtain ⟨a, cap, rfl, h2, h3, h4, h5⟩ := hl
  obtain ⟨a', cap', rfl, h2', h3', h4', h5'⟩ := hu
  simp only [List.length_map] at h2 h2' ⊢
  unfold maxLen at h3 h3'
  have H5 := Lib.hid h5; clear h5
  have H5' := Lib.hid h5'; clear h5'
  by_cases hlm : l.length = m.length
  case neg =>
    have hlm' : ¬ (l.length : Int) = (m.length : Int) := by omega
    go_enter Try.func30, Try.ntmps30
    go_wp2
    refine bodyPost_ret (v := .bool (sameL hlfEq l m)) (by simp [results, Try.results30, sameL_len hlm]) rfl ⟨rfl, Below.refl _ _⟩
  have HLM := Lib.hid hlm
  rw [← hlm] at h2' ⊢
  clear hlm
  go_enter Try.func30, Try.ntmps30
  go_wp2
  go_loopw [5] (fun i wr => ∃ k : Nat, k ≤ l.length ∧ i = .int .i64 k ∧ Hid (∀ (i : Nat) (x y : Hlf), i < k → l[i]? = some x → m[i]? = some y → hlfEq x y = true) ∧ ∃ n, wr = w.drewN n) (fun i _ => l.length - (intOf i).toNat)
  case atStart => exact ⟨0, Nat.zero_le _, rfl, fun i x y hi => by omega, 0, rfl⟩
  case round =>
    obtain ⟨k, hk, rfl, hno, n, rfl⟩ := hrel
    by_cases hlt : k < l.length
    · obtain ⟨x, hx⟩ : ∃ x, l[k]? = some x := ⟨_, List.getElem?_eq_getElem hlt⟩
      obtain ⟨y, hy⟩ : ∃ y, m[k]? = some y := ⟨_, List.getElem?_eq_getElem (by have := HLM.out; omega)⟩
      obtain ⟨b, off, rfl, hbw, hr⟩ := H5.out k (hlfCells x) (by simp [hx])
      obtain ⟨b', off', rfl, hbw', hr'⟩ := H5'.out k (hlfCells y) (by simp [hy])
      have HX := Lib.hid hx; clear hx
      have HY := Lib.hid hy; clear hy
      obtain ⟨⟨x_t_ip, x_t_port, x_t_my⟩, x_iss, x_irs, ⟨x_o_mss, x_o_scale, x_o_sack, x_o_stamp, x_o_val, x_o_echo⟩, x_age, x_window⟩ := x
      obtain ⟨⟨y_t_ip, y_t_port, y_t_my⟩, y_iss, y_irs, ⟨y_o_mss, y_o_scale, y_o_sack, y_o_stamp, y_o_val, y_o_echo⟩, y_age, y_window⟩ := y
      have c0 := hr 0 _ rfl
      have c1 := hr 1 _ rfl
      have c2 := hr 2 _ rfl
      have c3 := hr 3 _ rfl
      have c4 := hr 4 _ rfl
      have c5 := hr 5 _ rfl
      have c6 := hr 6 _ rfl
      have c7 := hr 7 _ rfl
      have c8 := hr 8 _ rfl
      have c9 := hr 9 _ rfl
      have c10 := hr 10 _ rfl
      have c11 := hr 11 _ rfl
      have c12 := hr 12 _ rfl
      have d0 := hr' 0 _ rfl
      have d1 := hr' 1 _ rfl
      have d2 := hr' 2 _ rfl
      have d3 := hr' 3 _ rfl
      have d4 := hr' 4 _ rfl
      have d5 := hr' 5 _ rfl
      have d6 := hr' 6 _ rfl
      have d7 := hr' 7 _ rfl
      have d8 := hr' 8 _ rfl
      have d9 := hr' 9 _ rfl
      have d10 := hr' 10 _ rfl
      have d11 := hr' 11 _ rfl
      have d12 := hr' 12 _ rfl
      simp only [Nat.add_zero] at c0 d0
      clear hr hr'
      have hk0 : (0 : Int) ≤ (k : Int) := Int.natCast_nonneg _
      have hk1 : (k : Int) < (l.length : Int) := by omega
      cases hq : hlfEq ⟨⟨x_t_ip, x_t_port, x_t_my⟩, x_iss, x_irs, ⟨x_o_mss, x_o_scale, x_o_sack, x_o_stamp, x_o_val, x_o_echo⟩, x_age, x_window⟩ ⟨⟨y_t_ip, y_t_port, y_t_my⟩, y_iss, y_irs, ⟨y_o_mss, y_o_scale, y_o_sack, y_o_stamp, y_o_val, y_o_echo⟩, y_age, y_window⟩
      · go_wp2
        go_quiet (fail)
        go_wp2
        refine bodyPost_ret (v := .bool (sameL hlfEq l m)) (by simp [results, Try.results30, sameL_no HX.out HY.out hq]) rfl ⟨rfl, ?_⟩
        (repeat' (first | (with_reducible exact Below.refl _ _) | (with_reducible refine Below.alloc ?_ ?_ _) | (with_reducible refine belowGrow ?_ ?_ _ _) | (with_reducible refine Below.setCell ?_ ?_ _) | (with_reducible refine Below.drew ?_) | (with_reducible refine bdrewN ?_ _) | (with_reducible assumption) | (with_reducible refine bstep ?_ (by assumption) ?_) | (simp only [World.size_alloc, World.size_setCell, World.size_drew, World.heap_drewN, size_grow]; done) | (simp only [World.size_alloc, World.size_setCell, World.size_drew, World.heap_drewN, size_grow]; omega) | omega))
      · go_wp2
        go_quiet (fail)
        go_wp2
        go_roundw
        case rel => exact ⟨k + 1, by omega, by go_num, fun i x' y' hi h1 h2 => by
          rcases Nat.lt_succ_iff_lt_or_eq.1 hi with h | rfl
          · exact hno i x' y' h h1 h2
          · have e1 := HX.out.symm.trans h1; have e2 := HY.out.symm.trans h2; simp only [Option.some.injEq] at e1 e2; subst e1; subst e2; exact hq, _, rfl⟩
        case measure => simp [intOf]; omega
    · go_wp2
      refine bodyPost_ret (v := .bool (sameL hlfEq l m)) (by simp [results, Try.results30, sameL_yes HLM.out (fun i x y h1 h2 => hno i x y (by have := (List.getElem?_eq_some_iff.1 h1).1; omega) h1 h2)]) rfl ⟨rfl, ?_⟩
      (repeat' (first | (with_reducible exact Below.refl _ _) | (with_reducible refine Below.alloc ?_ ?_ _) | (with_reducible refine belowGrow ?_ ?_ _ _) | (with_reducible refine Below.setCell ?_ ?_ _) | (with_reducible refine Below.drew ?_) | (with_reducible refine bdrewN ?_ _) | (with_reducible assumption) | (with_reducible refine bstep ?_ (by assumption) ?_) | (simp only [World.size_alloc, World.size_setCell, World.size_drew, World.heap_drewN, size_grow]; done) | (simp only [World.size_alloc, World.size_setCell, World.size_drew, World.heap_drewN, size_grow]; omega) | omega))

theorem iEqualHalf_c (v u : Value) (l m : List Hlf) (w : World) (hl : Sl w v 13 (l.map hlfCells)) (hu : Sl w u 13 (m.map hlfCells)) : Calls Try.prog 73 #[v, u] w fun e w' => e = .returned (.bool (sameL hlfEq l m)) ∧ Below w.heap.size w w' := by
  obtain ⟨a, cap, rfl, h2, h3, h4, h5⟩ := hl
  obtain ⟨a', cap', rfl, h2', h3', h4', h5'⟩ := hu
  simp only [List.length_map] at h2 h2' ⊢
  unfold maxLen at h3 h3'
  have H5 := Lib.hid h5; clear h5
  have H5' := Lib.hid h5'; clear h5'
  by_cases hlm : l.length = m.length
  case neg =>
    have hlm' : ¬ (l.length : Int) = (m.length : Int) := by omega
    go_enter Try.func73, Try.ntmps73
    go_wp2
    refine bodyPost_ret (v := .bool (sameL hlfEq l m)) (by simp [results, Try.results73, sameL_len hlm]) rfl ⟨rfl, Below.refl _ _⟩
  have HLM := Lib.hid hlm
  rw [← hlm] at h2' ⊢
  clear hlm
  go_enter Try.func73, Try.ntmps73
  go_wp2
  go_loopw [13] (fun i wr => ∃ k : Nat, k ≤ l.length ∧ i = .int .i64 k ∧ Hid (∀ (i : Nat) (x y : Hlf), i < k → l[i]? = some x → m[i]? = some y → hlfEq x y = true) ∧ ∃ n, wr = w.drewN n) (fun i _ => l.length - (intOf i).toNat)
  case atStart => exact ⟨0, Nat.zero_le _, rfl, fun i x y hi => by omega, 0, rfl⟩
  case round =>
    obtain ⟨k, hk, rfl, hno, n, rfl⟩ := hrel
    by_cases hlt : k < l.length
    · obtain ⟨x, hx⟩ : ∃ x, l[k]? = some x := ⟨_, List.getElem?_eq_getElem hlt⟩
      obtain ⟨y, hy⟩ : ∃ y, m[k]? = some y := ⟨_, List.getElem?_eq_getElem (by have := HLM.out; omega)⟩
      obtain ⟨b, off, rfl, hbw, hr⟩ := H5.out k (hlfCells x) (by simp [hx])
      obtain ⟨b', off', rfl, hbw', hr'⟩ := H5'.out k (hlfCells y) (by simp [hy])
      have HX := Lib.hid hx; clear hx
      have HY := Lib.hid hy; clear hy
      obtain ⟨⟨x_t_ip, x_t_port, x_t_my⟩, x_iss, x_irs, ⟨x_o_mss, x_o_scale, x_o_sack, x_o_stamp, x_o_val, x_o_echo⟩, x_age, x_window⟩ := x
      obtain ⟨⟨y_t_ip, y_t_port, y_t_my⟩, y_iss, y_irs, ⟨y_o_mss, y_o_scale, y_o_sack, y_o_stamp, y_o_val, y_o_echo⟩, y_age, y_window⟩ := y
      have c0 := hr 0 _ rfl
      have c1 := hr 1 _ rfl
      have c2 := hr 2 _ rfl
      have c3 := hr 3 _ rfl
      have c4 := hr 4 _ rfl
      have c5 := hr 5 _ rfl
      have c6 := hr 6 _ rfl
      have c7 := hr 7 _ rfl
      have c8 := hr 8 _ rfl
      have c9 := hr 9 _ rfl
      have c10 := hr 10 _ rfl
      have c11 := hr 11 _ rfl
      have c12 := hr 12 _ rfl
      have d0 := hr' 0 _ rfl
      have d1 := hr' 1 _ rfl
      have d2 := hr' 2 _ rfl
      have d3 := hr' 3 _ rfl
      have d4 := hr' 4 _ rfl
      have d5 := hr' 5 _ rfl
      have d6 := hr' 6 _ rfl
      have d7 := hr' 7 _ rfl
      have d8 := hr' 8 _ rfl
      have d9 := hr' 9 _ rfl
      have d10 := hr' 10 _ rfl
      have d11 := hr' 11 _ rfl
      have d12 := hr' 12 _ rfl
      simp only [Nat.add_zero] at c0 d0
      clear hr hr'
      have hk0 : (0 : Int) ≤ (k : Int) := Int.natCast_nonneg _
      have hk1 : (k : Int) < (l.length : Int) := by omega
      cases hq : hlfEq ⟨⟨x_t_ip, x_t_port, x_t_my⟩, x_iss, x_irs, ⟨x_o_mss, x_o_scale, x_o_sack, x_o_stamp, x_o_val, x_o_echo⟩, x_age, x_window⟩ ⟨⟨y_t_ip, y_t_port, y_t_my⟩, y_iss, y_irs, ⟨y_o_mss, y_o_scale, y_o_sack, y_o_stamp, y_o_val, y_o_echo⟩, y_age, y_window⟩
      · go_wp2
        go_quiet (fail)
        go_wp2
        refine bodyPost_ret (v := .bool (sameL hlfEq l m)) (by simp [results, Try.results73, sameL_no HX.out HY.out hq]) rfl ⟨rfl, ?_⟩
        (repeat' (first | (with_reducible exact Below.refl _ _) | (with_reducible refine Below.alloc ?_ ?_ _) | (with_reducible refine belowGrow ?_ ?_ _ _) | (with_reducible refine Below.setCell ?_ ?_ _) | (with_reducible refine Below.drew ?_) | (with_reducible refine bdrewN ?_ _) | (with_reducible assumption) | (with_reducible refine bstep ?_ (by assumption) ?_) | (simp only [World.size_alloc, World.size_setCell, World.size_drew, World.heap_drewN, size_grow]; done) | (simp only [World.size_alloc, World.size_setCell, World.size_drew, World.heap_drewN, size_grow]; omega) | omega))
      · go_wp2
        go_quiet (fail)
        go_wp2
        go_roundw
        case rel => exact ⟨k + 1, by omega, by go_num, fun i x' y' hi h1 h2 => by
          rcases Nat.lt_succ_iff_lt_or_eq.1 hi with h | rfl
          · exact hno i x' y' h h1 h2
          · have e1 := HX.out.symm.trans h1; have e2 := HY.out.symm.trans h2; simp only [Option.some.injEq] at e1 e2; subst e1; subst e2; exact hq, _, rfl⟩
        case measure => simp [intOf]; omega
    · go_wp2
      refine bodyPost_ret (v := .bool (sameL hlfEq l m)) (by simp [results, Try.results73, sameL_yes HLM.out (fun i x y h1 h2 => hno i x y (by have := (List.getElem?_eq_some_iff.1 h1).1; omega) h1 h2)]) rfl ⟨rfl, ?_⟩
      (repeat' (first | (with_reducible exact Below.refl _ _) | (with_reducible refine Below.alloc ?_ ?_ _) | (with_reducible refine belowGrow ?_ ?_ _ _) | (with_reducible refine Below.setCell ?_ ?_ _) | (with_reducible refine Below.drew ?_) | (with_reducible refine bdrewN ?_ _) | (with_reducible assumption) | (with_reducible refine bstep ?_ (by assumption) ?_) | (simp only [World.size_alloc, World.size_setCell, World.size_drew, World.heap_drewN, size_grow]; done) | (simp only [World.size_alloc, World.size_setCell, World.size_drew, World.heap_drewN, size_grow]; omega) | omega))

theorem iSameHalves_c (v u : Value) (l m : List Hlf) (w : World) (hl : Sl w v 13 (l.map hlfCells)) (hu : Sl w u 13 (m.map hlfCells)) : Calls Try.prog 36 #[v, u] w fun e w' => e = .returned (.bool (sameL hlfEq l m)) ∧ Below w.heap.size w w' := by
  have HL := Lib.hid hl; have HU := Lib.hid hu; clear hl hu
  go_enter Try.func36, Try.ntmps36
  go_wp2_with (go_at_call 73; with_reducible refine (iEqualHalf_c _ _ _ _ _ HL.out HU.out).mono ?_; rintro e w1 ⟨rfl, hb1⟩)
  refine bodyPost_ret (v := .bool (sameL hlfEq l m)) (by simp [results, Try.results36]) rfl ⟨rfl, hb1⟩
end Go.Proofs.Ytcoppgllfipbeaa
