/- Contracts: slices of Half in the laws. -/
import Derived.Test.YteoipoenbofemaaR
import Derived.Test.YteoipoenbofemaaA3
import Derived.Test.YteoipoenbofemaaA4
namespace Go.Proofs.Yteoipoenbofemaa
open Go.RowKit
attribute [local go_sem] lt_gap le_gap eq_gap gap_eq lt_ones2 lt_ones3 lt_ones4 lt_ones5 lt_ones6 lt_ones7 lt_ones8 lt_gap_1 lt_gap_2 lt_gap_3 lt_gap_4 lt_gap_5 lt_gap_6 size_grow cell?_grow frozen?_grow setCell_grow drew_grow drewN_grow
attribute [local go_sem] boxOf_alloc_at boxOf_alloc_past boxOf_grow boxOf_drew boxOf_drewN isBox_alloc_at isBox_alloc_past isBox_grow isBox_drew isBox_drewN putAt_all putAt setCells_alloc_at setCells_alloc_past setCells_grow setCells_drew
set_option linter.unusedVariables false
set_option linter.unusedSimpArgs false

theorem hlfCells_len (x : Hlf) : (hlfCells x).length = 13 := rfl
theorem hlfRows_len (l : List Hlf) : ∀ r ∈ l.map hlfCells, r.length = 13 := fun r h => by obtain ⟨x, -, rfl⟩ := List.mem_map.1 h; rfl
theorem szHalfS_c (v : Value) (l : List Hlf) (left : Int) (w : World) (hl : Sl w v 13 (l.map hlfCells)) (h0 : 0 ≤ left) (h1 : left ≤ 1048576) : Calls Try.prog 14 #[v, .int .i64 left] w fun e w' => e = .returned (.int .i64 (if left < l.length then -1 else left - l.length)) ∧ w = w' := by
  obtain ⟨a, cap, rfl, h2, h3, h4, h5⟩ := hl
  simp only [List.length_map] at h2 ⊢
  unfold maxLen at h3
  have H5 := Lib.hid h5; clear h5
  by_cases h : left < l.length
  all_goals
    go_enter Try.func14, Try.ntmps14
    go_wp2
    refine bodyPost_ret (v := .int .i64 (if left < l.length then -1 else left - l.length)) (by first | (simp [results, Try.results14, *]; done) | (simp [results, Try.results14, *]; omega)) rfl ⟨by first | rfl | (split <;> first | rfl | (exfalso; omega)), rfl⟩
theorem Try.info_Half : (Try.prog.info? 42).map (fun i => (i.zero, i.size, i.bytes)) = some (some (.agg #[.int .i64 0, .int .i64 0, .int .i64 0, .int .i64 0, .int .i64 0, .int .i64 0, .int .i64 0, .bool false, .bool false, .int .i64 0, .int .i64 0, .int .i64 0, .int .i64 0]), 13, 96) := by kernel_rfl
set_option maxRecDepth 100000 in
set_option maxHeartbeats 1000000 in
theorem toHalfS_c (v : Value) (l : List Hlf) (w : World) (hl : Sl w v 13 (l.map hlfCells)) (hn : l.length ≤ 1048576) : Calls Try.prog 16 #[v] w fun e w' => ∃ v', e = .returned v' ∧ Own w' w.heap.size v' 13 (l.map hlfCells) ∧ Below w.heap.size w w' := by
  obtain ⟨a, cap, rfl, h2, h3, h4, h5⟩ := hl
  simp only [List.length_map] at h2 ⊢
  unfold maxLen at h3
  have H5 := Lib.hid h5; clear h5
  obtain ⟨i0, hi, hz0, hz1, hz2⟩ := info_parts Try.info_Half
  have his : (Try.prog.info? 42).map (·.size) = some 13 := by rw [hi]; simp [hz1]
  have HI := Lib.hid hi; clear hi
  go_enter Try.func16, Try.ntmps16
  go_wp2_with ((refine wpList_make_full _ rfl _ _ 26 rfl w.heap.size 42 i0 _ 13 Try.underlying26 HI.out hz0 hz1 .i64 .i64 _ _ l.length (by rfl) (by rfl) (by rfl) (by rfl) (by rw [hz2]; omega) (by unfold maxLen; omega) (Nat.le_refl _) ?_); intro w1 hown hgrow)
  have hF : Fill w1 w.heap.size l.length 13 (l.map hlfCells) 0 := Fill.start hown
  have hB : Below w.heap.size w w1 := (Below.refl _ _).grown hgrow (Nat.le_refl _) (fun k h => by simp at h)
  have hsz : w.heap.size < w1.heap.size := by
    rcases hown.2 with ⟨h, _⟩ | ⟨g, cap, cur, h, _, hh, _⟩
    · simp at h
    · simp at h; obtain ⟨rfl, rfl⟩ := h; exact (Array.getElem?_eq_some_iff.1 hh).1
  clear hown hgrow
  go_loopw [4] (fun i wr => ∃ k : Nat, k ≤ l.length ∧ i = .int .i64 k ∧ Below w.heap.size w wr ∧ w.heap.size < wr.heap.size ∧ Hid (Fill wr w.heap.size l.length 13 (l.map hlfCells) k)) (fun i _ => l.length - (intOf i).toNat)
  case atStart => exact ⟨0, Nat.zero_le _, rfl, hB, hsz, hF⟩
  case round =>
    clear hF hB hsz
    obtain ⟨k, hk, rfl, hB, hsz, hF⟩ := hrel
    by_cases hlt : k < l.length
    · obtain ⟨x, hx⟩ : ∃ x, l[k]? = some x := ⟨_, List.getElem?_eq_getElem hlt⟩
      obtain ⟨b, off, rfl, hbw, hr⟩ := H5.out k (hlfCells x) (by simp [hx])
      have hr := Below.rangeAt hB hbw hr
      have hrow : (l.map hlfCells)[k]? = some (hlfCells x) := by simp [hx]
      have HX := Lib.hid hrow; clear hx hrow
      obtain ⟨⟨x_t_ip, x_t_port, x_t_my⟩, x_iss, x_irs, ⟨x_o_mss, x_o_scale, x_o_sack, x_o_stamp, x_o_val, x_o_echo⟩, x_age, x_window⟩ := x
      have c0 := hr 0 _ rfl
      have c1 := hr 1 _ rfl
      have c2 := hr 2 _ rfl
      have c3 := hr 3 _ rfl
      have c4 := hr 4 _ rfl
      have c5 := hr 5 _ rfl
      have c6 := hr 6 _ rfl
      have c7 := hr 7 _ rfl
      have c8 := hr 8 _ rfl
      have c9 := hr 9 _ rfl
      have c10 := hr 10 _ rfl
      have c11 := hr 11 _ rfl
      have c12 := hr 12 _ rfl
      simp only [Nat.add_zero] at c0
      clear hr
      have hk0 : (0 : Int) ≤ (k : Int) := Int.natCast_nonneg _
      have hk1 : (k : Int) < (l.length : Int) := by omega
      go_wp2_with (go_at_call 23; with_reducible refine (toHalf_c _ _ _ _ _ _ _ _ _ _ _ _ _ _).mono ?_; rintro e w2 ⟨rfl, hb2⟩; have hF2 := Lib.hid (hF.out.below hb2 hsz); obtain ⟨⟨o0, ho0⟩, ff0⟩ := Fill.old hF2.out hlt 0 (by omega); obtain ⟨⟨o1, ho1⟩, ff1⟩ := Fill.old hF2.out hlt 1 (by omega); obtain ⟨⟨o2, ho2⟩, ff2⟩ := Fill.old hF2.out hlt 2 (by omega); obtain ⟨⟨o3, ho3⟩, ff3⟩ := Fill.old hF2.out hlt 3 (by omega); obtain ⟨⟨o4, ho4⟩, ff4⟩ := Fill.old hF2.out hlt 4 (by omega); obtain ⟨⟨o5, ho5⟩, ff5⟩ := Fill.old hF2.out hlt 5 (by omega); obtain ⟨⟨o6, ho6⟩, ff6⟩ := Fill.old hF2.out hlt 6 (by omega); obtain ⟨⟨o7, ho7⟩, ff7⟩ := Fill.old hF2.out hlt 7 (by omega); obtain ⟨⟨o8, ho8⟩, ff8⟩ := Fill.old hF2.out hlt 8 (by omega); obtain ⟨⟨o9, ho9⟩, ff9⟩ := Fill.old hF2.out hlt 9 (by omega); obtain ⟨⟨o10, ho10⟩, ff10⟩ := Fill.old hF2.out hlt 10 (by omega); obtain ⟨⟨o11, ho11⟩, ff11⟩ := Fill.old hF2.out hlt 11 (by omega); obtain ⟨⟨o12, ho12⟩, ff12⟩ := Fill.old hF2.out hlt 12 (by omega); simp only [Nat.add_zero] at ho0 ff0)
      have hst := hF2.out.step (hlfRows_len l) HX.out (by simp)
      have hB2 : Below w.heap.size w (w2.setCells w.heap.size (k * 13) (hlfCells ⟨⟨x_t_ip, x_t_port, x_t_my⟩, x_iss, x_irs, ⟨x_o_mss, x_o_scale, x_o_sack, x_o_stamp, x_o_val, x_o_echo⟩, x_age, x_window⟩)) := Below.setCells (Nat.le_refl _) _ _ (hB.trans (hb2.mono (by omega)))
      have hs2 : w.heap.size < (w2.setCells w.heap.size (k * 13) (hlfCells ⟨⟨x_t_ip, x_t_port, x_t_my⟩, x_iss, x_irs, ⟨x_o_mss, x_o_scale, x_o_sack, x_o_stamp, x_o_val, x_o_echo⟩, x_age, x_window⟩)).heap.size := by rw [size_setCells]; have := hb2.size; omega
      have HS := Lib.hid hst; clear hst
      go_wp2
      go_roundw
      case rel => exact ⟨k + 1, by omega, by go_num, hB2, hs2, HS.out⟩
      case measure => simp [intOf]; omega
    · obtain rfl : k = l.length := by omega
      go_wp2
      refine bodyPost_ret (by simp [results, Try.results16]) rfl ⟨_, rfl, hF.out.own (by simp) (Nat.le_refl _) hsz (by unfold maxLen; omega), hB⟩
theorem eqHalf_o (x : Hlf) (w : World) : Calls Try.prog 65 #[.agg (hlfCells x).toArray, .agg (hlfCells x).toArray] w fun e w' => e = .returned (.bool true) ∧ Below w.heap.size w w' := eqHalf_c x.t.ip x.t.port x.t.my x.iss x.irs x.o.mss x.o.scale x.o.sack x.o.stamp x.o.val x.o.echo x.age x.window w
set_option maxHeartbeats 1000000 in
theorem eqHalfS_c (v u : Value) (l : List Hlf) (w : World) (hl : Sl w v 13 (l.map hlfCells)) (hu : Sl w u 13 (l.map hlfCells)) : Calls Try.prog 19 #[v, u] w fun e w' => e = .returned (.bool true) ∧ Below w.heap.size w w' := by
  obtain ⟨a, cap, rfl, h2, h3, h4, h5⟩ := hl
  obtain ⟨a', cap', rfl, h2', h3', h4', h5'⟩ := hu
  simp only [List.length_map] at h2 h2' ⊢
  unfold maxLen at h3 h3'
  have H5 := Lib.hid h5; clear h5
  have H5' := Lib.hid h5'; clear h5'
  go_enter Try.func19, Try.ntmps19
  go_wp2
  go_loopw [5] (fun i wr => ∃ k : Nat, k ≤ l.length ∧ i = .int .i64 k ∧ Below w.heap.size w wr) (fun i _ => l.length - (intOf i).toNat)
  case atStart => exact ⟨0, Nat.zero_le _, rfl, Below.refl _ _⟩
  case round =>
    obtain ⟨k, hk, rfl, hB⟩ := hrel
    by_cases hlt : k < l.length
    · obtain ⟨x, hx⟩ : ∃ x, l[k]? = some x := ⟨_, List.getElem?_eq_getElem hlt⟩
      obtain ⟨b, off, rfl, hbw, hr⟩ := H5.out k (hlfCells x) (by simp [hx])
      obtain ⟨b', off', rfl, hbw', hr'⟩ := H5'.out k (hlfCells x) (by simp [hx])
      have hr := Below.rangeAt hB hbw hr
      have hr' := Below.rangeAt hB hbw' hr'
      have hbz : b < wr.heap.size := by have := hB.size; omega
      have hbz' : b' < wr.heap.size := by have := hB.size; omega
      clear hx
      have hk0 : (0 : Int) ≤ (k : Int) := Int.natCast_nonneg _
      have hk1 : (k : Int) < (l.length : Int) := by omega
      have hBs := hB.size
      obtain ⟨⟨x_t_ip, x_t_port, x_t_my⟩, x_iss, x_irs, ⟨x_o_mss, x_o_scale, x_o_sack, x_o_stamp, x_o_val, x_o_echo⟩, x_age, x_window⟩ := x
      have c0 := hr 0 _ rfl
      have c1 := hr 1 _ rfl
      have c2 := hr 2 _ rfl
      have c3 := hr 3 _ rfl
      have c4 := hr 4 _ rfl
      have c5 := hr 5 _ rfl
      have c6 := hr 6 _ rfl
      have c7 := hr 7 _ rfl
      have c8 := hr 8 _ rfl
      have c9 := hr 9 _ rfl
      have c10 := hr 10 _ rfl
      have c11 := hr 11 _ rfl
      have c12 := hr 12 _ rfl
      have d0 := hr' 0 _ rfl
      have d1 := hr' 1 _ rfl
      have d2 := hr' 2 _ rfl
      have d3 := hr' 3 _ rfl
      have d4 := hr' 4 _ rfl
      have d5 := hr' 5 _ rfl
      have d6 := hr' 6 _ rfl
      have d7 := hr' 7 _ rfl
      have d8 := hr' 8 _ rfl
      have d9 := hr' 9 _ rfl
      have d10 := hr' 10 _ rfl
      have d11 := hr' 11 _ rfl
      have d12 := hr' 12 _ rfl
      simp only [Nat.add_zero] at c0 d0
      clear hr hr'
      go_wp2
      go_region_held3 (fun w' => w'.cell? ⟨b, off + k * 13, none⟩ = some (.int .i64 x_t_ip) ∧ w'.cell? ⟨b, off + k * 13 + 1, none⟩ = some (.int .i64 x_t_port) ∧ w'.cell? ⟨b, off + k * 13 + 2, none⟩ = some (.int .i64 x_t_my) ∧ w'.cell? ⟨b, off + k * 13 + 3, none⟩ = some (.int .i64 x_iss) ∧ w'.cell? ⟨b, off + k * 13 + 4, none⟩ = some (.int .i64 x_irs) ∧ w'.cell? ⟨b, off + k * 13 + 5, none⟩ = some (.int .i64 x_o_mss) ∧ w'.cell? ⟨b, off + k * 13 + 6, none⟩ = some (.int .i64 x_o_scale) ∧ w'.cell? ⟨b, off + k * 13 + 7, none⟩ = some (.bool x_o_sack) ∧ w'.cell? ⟨b, off + k * 13 + 8, none⟩ = some (.bool x_o_stamp) ∧ w'.cell? ⟨b, off + k * 13 + 9, none⟩ = some (.int .i64 x_o_val) ∧ w'.cell? ⟨b, off + k * 13 + 10, none⟩ = some (.int .i64 x_o_echo) ∧ w'.cell? ⟨b, off + k * 13 + 11, none⟩ = some (.int .i64 x_age) ∧ w'.cell? ⟨b, off + k * 13 + 12, none⟩ = some (.int .i64 x_window) ∧ w'.cell? ⟨b', off' + k * 13, none⟩ = some (.int .i64 x_t_ip) ∧ w'.cell? ⟨b', off' + k * 13 + 1, none⟩ = some (.int .i64 x_t_port) ∧ w'.cell? ⟨b', off' + k * 13 + 2, none⟩ = some (.int .i64 x_t_my) ∧ w'.cell? ⟨b', off' + k * 13 + 3, none⟩ = some (.int .i64 x_iss) ∧ w'.cell? ⟨b', off' + k * 13 + 4, none⟩ = some (.int .i64 x_irs) ∧ w'.cell? ⟨b', off' + k * 13 + 5, none⟩ = some (.int .i64 x_o_mss) ∧ w'.cell? ⟨b', off' + k * 13 + 6, none⟩ = some (.int .i64 x_o_scale) ∧ w'.cell? ⟨b', off' + k * 13 + 7, none⟩ = some (.bool x_o_sack) ∧ w'.cell? ⟨b', off' + k * 13 + 8, none⟩ = some (.bool x_o_stamp) ∧ w'.cell? ⟨b', off' + k * 13 + 9, none⟩ = some (.int .i64 x_o_val) ∧ w'.cell? ⟨b', off' + k * 13 + 10, none⟩ = some (.int .i64 x_o_echo) ∧ w'.cell? ⟨b', off' + k * 13 + 11, none⟩ = some (.int .i64 x_age) ∧ w'.cell? ⟨b', off' + k * 13 + 12, none⟩ = some (.int .i64 x_window))
        (first | exact ⟨(hb2.cell (p := ⟨b, _, none⟩) hbz).trans c0, (hb2.cell (p := ⟨b, _, none⟩) hbz).trans c1, (hb2.cell (p := ⟨b, _, none⟩) hbz).trans c2, (hb2.cell (p := ⟨b, _, none⟩) hbz).trans c3, (hb2.cell (p := ⟨b, _, none⟩) hbz).trans c4, (hb2.cell (p := ⟨b, _, none⟩) hbz).trans c5, (hb2.cell (p := ⟨b, _, none⟩) hbz).trans c6, (hb2.cell (p := ⟨b, _, none⟩) hbz).trans c7, (hb2.cell (p := ⟨b, _, none⟩) hbz).trans c8, (hb2.cell (p := ⟨b, _, none⟩) hbz).trans c9, (hb2.cell (p := ⟨b, _, none⟩) hbz).trans c10, (hb2.cell (p := ⟨b, _, none⟩) hbz).trans c11, (hb2.cell (p := ⟨b, _, none⟩) hbz).trans c12, (hb2.cell (p := ⟨b', _, none⟩) hbz').trans d0, (hb2.cell (p := ⟨b', _, none⟩) hbz').trans d1, (hb2.cell (p := ⟨b', _, none⟩) hbz').trans d2, (hb2.cell (p := ⟨b', _, none⟩) hbz').trans d3, (hb2.cell (p := ⟨b', _, none⟩) hbz').trans d4, (hb2.cell (p := ⟨b', _, none⟩) hbz').trans d5, (hb2.cell (p := ⟨b', _, none⟩) hbz').trans d6, (hb2.cell (p := ⟨b', _, none⟩) hbz').trans d7, (hb2.cell (p := ⟨b', _, none⟩) hbz').trans d8, (hb2.cell (p := ⟨b', _, none⟩) hbz').trans d9, (hb2.cell (p := ⟨b', _, none⟩) hbz').trans d10, (hb2.cell (p := ⟨b', _, none⟩) hbz').trans d11, (hb2.cell (p := ⟨b', _, none⟩) hbz').trans d12⟩ | go_keep)
        (first | (go_at_call 65; refine (eqHalf_c x_t_ip x_t_port x_t_my x_iss x_irs x_o_mss x_o_scale x_o_sack x_o_stamp x_o_val x_o_echo x_age x_window _).mono ?_; rintro e w2 ⟨rfl, hb2⟩))
      go_wp2
      go_roundw
      case rel => exact ⟨k + 1, by omega, by go_num, by (repeat' (first | (with_reducible exact Below.refl _ _) | (with_reducible refine Below.alloc ?_ ?_ _) | (with_reducible refine belowGrow ?_ ?_ _ _) | (with_reducible refine Below.setCell ?_ ?_ _) | (with_reducible refine Below.drew ?_) | (with_reducible refine bdrewN ?_ _) | (with_reducible assumption) | (with_reducible refine bstep ?_ (by assumption) ?_) | (simp only [World.size_alloc, World.size_setCell, World.size_drew, World.heap_drewN, size_grow]; done) | (simp only [World.size_alloc, World.size_setCell, World.size_drew, World.heap_drewN, size_grow]; omega) | omega))⟩
      case measure => simp [intOf]; omega
    · obtain rfl : k = l.length := by omega
      go_wp2
      refine bodyPost_ret (v := .bool true) (by simp [results, Try.results19]) rfl ⟨rfl, hB⟩
end Go.Proofs.Yteoipoenbofemaa
