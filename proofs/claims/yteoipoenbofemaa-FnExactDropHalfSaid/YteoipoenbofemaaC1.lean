/- Contracts (C1). -/
import Derived.Test.YteoipoenbofemaaA5
import Derived.Test.YteoipoenbofemaaSPiece
import Derived.Test.YteoipoenbofemaaOS
import Derived.Test.YteoipoenbofemaaX
namespace Go.Proofs.Yteoipoenbofemaa
open Go.RowKit
attribute [local go_sem] lt_gap le_gap eq_gap gap_eq lt_ones2 lt_ones3 lt_ones4 lt_ones5 lt_ones6 lt_ones7 lt_ones8 lt_gap_1 lt_gap_2 lt_gap_3 lt_gap_4 lt_gap_5 lt_gap_6 size_grow cell?_grow frozen?_grow setCell_grow drew_grow drewN_grow
attribute [local go_sem] boxOf_alloc_at boxOf_alloc_past boxOf_grow boxOf_drew boxOf_drewN isBox_alloc_at isBox_alloc_past isBox_grow isBox_drew isBox_drewN putAt_all putAt setCells_alloc_at setCells_alloc_past setCells_grow setCells_drew
attribute [local go_sem ↓] pload_implConn pstore_implConn pload_lawsConn pstore_lawsConn pload_implReceiver pstore_implReceiver pload_lawsReceiver pstore_lawsReceiver pload_implTable pstore_implTable pload_lawsTable pstore_lawsTable
attribute [local go_sem] Value.oneCell' load_implConn store_implConn load_lawsConn store_lawsConn load_implReceiver store_implReceiver load_lawsReceiver store_lawsReceiver load_implTable store_implTable load_lawsTable store_lawsTable
set_option linter.unusedVariables false
set_option linter.unusedSimpArgs false

theorem szPiece_c (x_off : Int) (x_text : ByteArray) (left : Int) (w : World) (h0 : 0 ≤ left) (h1 : left ≤ 1048576) (hm : x_text.size ≤ maxLen) : Calls Try.prog 139 #[.agg #[.int .i64 x_off, .string x_text], .int .i64 left] w fun e w' => e = .returned (.int .i64 (if left < x_text.size then -1 else left - x_text.size)) ∧ Below w.heap.size w w' := by
  unfold maxLen at hm
  by_cases h : left < x_text.size
  all_goals
    go_enter Try.func139, Try.ntmps139
    go_wp2
    refine bodyPost_ret (v := .int .i64 (if left < x_text.size then -1 else left - x_text.size)) (by first | (simp [results, Try.results139, *]; done) | (simp [results, Try.results139, *]; omega)) rfl ⟨by first | rfl | (split <;> first | rfl | (exfalso; omega)), ?_⟩
    (repeat' (first | (with_reducible exact Below.refl _ _) | (with_reducible refine Below.alloc ?_ ?_ _) | (with_reducible refine belowGrow ?_ ?_ _ _) | (with_reducible refine Below.setCell ?_ ?_ _) | (with_reducible refine Below.drew ?_) | (with_reducible refine bdrewN ?_ _) | (with_reducible assumption) | (with_reducible refine bstep ?_ (by assumption) ?_) | (simp only [World.size_alloc, World.size_setCell, World.size_drew, World.heap_drewN, size_grow]; done) | (simp only [World.size_alloc, World.size_setCell, World.size_drew, World.heap_drewN, size_grow]; omega) | omega))
theorem szSender_c (x_una : Int) (x_data : ByteArray) (x_sent : Int) (x_fin : Bool) (x_finSent : Bool) (x_done : Bool) (left : Int) (w : World) (h0 : 0 ≤ left) (h1 : left ≤ 1048576) (hm : x_data.size ≤ maxLen) : Calls Try.prog 124 #[.agg #[.int .i64 x_una, .string x_data, .int .i64 x_sent, .bool x_fin, .bool x_finSent, .bool x_done], .int .i64 left] w fun e w' => e = .returned (.int .i64 (if left < x_data.size then -1 else left - x_data.size)) ∧ Below w.heap.size w w' := by
  unfold maxLen at hm
  by_cases h : left < x_data.size
  all_goals
    go_enter Try.func124, Try.ntmps124
    go_wp2
    refine bodyPost_ret (v := .int .i64 (if left < x_data.size then -1 else left - x_data.size)) (by first | (simp [results, Try.results124, *]; done) | (simp [results, Try.results124, *]; omega)) rfl ⟨by first | rfl | (split <;> first | rfl | (exfalso; omega)), ?_⟩
    (repeat' (first | (with_reducible exact Below.refl _ _) | (with_reducible refine Below.alloc ?_ ?_ _) | (with_reducible refine belowGrow ?_ ?_ _ _) | (with_reducible refine Below.setCell ?_ ?_ _) | (with_reducible refine Below.drew ?_) | (with_reducible refine bdrewN ?_ _) | (with_reducible assumption) | (with_reducible refine bstep ?_ (by assumption) ?_) | (simp only [World.size_alloc, World.size_setCell, World.size_drew, World.heap_drewN, size_grow]; done) | (simp only [World.size_alloc, World.size_setCell, World.size_drew, World.heap_drewN, size_grow]; omega) | omega))
/-- What the size's count says of pieces: no more than so many, no text longer than so much. -/
def PcFit (left r : Int) (l : List Pce) : Prop := r = -1 ∨ (0 ≤ r ∧ r ≤ left ∧ l.length ≤ left ∧ ∀ p ∈ l, p.text.size ≤ left)
theorem szPieceS_c (v : Value) (l : List Pce) (left : Int) (w : World) (hl : Sl w v 2 (l.map pceCells)) (hm : ∀ p ∈ l, p.text.size ≤ maxLen) (h0 : 0 ≤ left) (h1 : left ≤ 1048576) : Calls Try.prog 82 #[v, .int .i64 left] w fun e w' => ∃ r : Int, e = .returned (.int .i64 r) ∧ PcFit left r l ∧ Below w.heap.size w w' := by
  obtain ⟨a, cap, rfl, h2, h3, h4, h5⟩ := hl
  simp only [List.length_map] at h2 ⊢
  unfold maxLen at h3
  have H5 := Lib.hid h5; clear h5
  have HM := Lib.hid hm; clear hm
  by_cases h : left < l.length
  · go_enter Try.func82, Try.ntmps82
    go_wp2
    refine bodyPost_ret (v := .int .i64 (-1)) (by simp [results, Try.results82]) rfl ⟨_, rfl, .inl rfl, ?_⟩
    (repeat' (first | (with_reducible exact Below.refl _ _) | (with_reducible refine Below.alloc ?_ ?_ _) | (with_reducible refine belowGrow ?_ ?_ _ _) | (with_reducible refine Below.setCell ?_ ?_ _) | (with_reducible refine Below.drew ?_) | (with_reducible refine bdrewN ?_ _) | (with_reducible assumption) | (with_reducible refine bstep ?_ (by assumption) ?_) | (simp only [World.size_alloc, World.size_setCell, World.size_drew, World.heap_drewN, size_grow]; done) | (simp only [World.size_alloc, World.size_setCell, World.size_drew, World.heap_drewN, size_grow]; omega) | omega))
  · have hn : (l.length : Int) ≤ left := by omega
    have hl0 : (0 : Int) ≤ left - l.length := by omega
    go_enter Try.func82, Try.ntmps82
    go_wp2
    go_loopw [1, 5] (fun c i wr => ∃ (k : Nat) (r : Int), k ≤ l.length ∧ i = .int .i64 k ∧ c = .int .i64 r ∧ 0 ≤ r ∧ r ≤ left ∧ Hid (∀ (j : Nat) (p : Pce), j < k → l[j]? = some p → p.text.size ≤ left) ∧ Below w.heap.size w wr) (fun _ i _ => l.length - (intOf i).toNat)
    case atStart => exact ⟨0, left - l.length, Nat.zero_le _, rfl, rfl, by omega, by omega, fun j p hj => by omega, Below.refl _ _⟩
    case round =>
      obtain ⟨k, r, hk, rfl, rfl, hr0, hr1, hno, hB⟩ := hrel
      by_cases hlt : k < l.length
      · obtain ⟨x, hx⟩ : ∃ x, l[k]? = some x := ⟨_, List.getElem?_eq_getElem hlt⟩
        obtain ⟨b, off, rfl, hbw, hr⟩ := H5.out k (pceCells x) (by simp [hx])
        have hr := Below.rangeAt hB hbw hr
        have hxm : x.text.size ≤ maxLen := HM.out x (List.mem_of_getElem? hx)
        have HX := Lib.hid hx; clear hx
        obtain ⟨x_off, x_text⟩ := x
        have c0 := hr 0 _ rfl
        have c1 := hr 1 _ rfl
        simp only [Nat.add_zero] at c0
        clear hr
        have hk0 : (0 : Int) ≤ (k : Int) := Int.natCast_nonneg _
        have hk1 : (k : Int) < (l.length : Int) := by omega
        have hBs := hB.size
        by_cases hq : r < x_text.size
        · go_wp2_with (go_at_call 139; with_reducible refine (szPiece_c _ _ _ _ hr0 (by omega) hxm).mono ?_; rintro e w2 ⟨rfl, hb2⟩; rw [if_pos hq])
          refine bodyPost_ret (v := .int .i64 (-1)) (by simp [results, Try.results82]) rfl ⟨_, rfl, .inl rfl, bstep hB hb2 hBs⟩
        · have hr2 : (0 : Int) ≤ r - x_text.size := by omega
          go_wp2_with (go_at_call 139; with_reducible refine (szPiece_c _ _ _ _ hr0 (by omega) hxm).mono ?_; rintro e w2 ⟨rfl, hb2⟩; rw [if_neg (by omega)])
          go_roundw
          case rel => exact ⟨k + 1, r - x_text.size, by omega, by go_num, rfl, hr2, by omega, fun j p hj hp => by
            rcases Nat.lt_succ_iff_lt_or_eq.1 hj with h | rfl
            · exact hno j p h hp
            · have := HX.out.symm.trans hp; simp only [Option.some.injEq] at this; subst this; simp only; omega, bstep hB hb2 hBs⟩
          case measure => simp [intOf]; omega
      · go_wp2
        refine bodyPost_ret (v := .int .i64 r) (by simp [results, Try.results82]) rfl ⟨_, rfl, .inr ⟨hr0, hr1, hn, fun p hp => by
          obtain ⟨j, hj, rfl⟩ := List.mem_iff_getElem.1 hp
          exact hno j _ (by omega) (List.getElem?_eq_getElem hj)⟩, hB⟩
theorem szReceiver_c (x_next : Int) (x_data : ByteArray) (x_held : List Pce) (x_held_v : Value) (x_fin : Int) (x_done : Bool) (left : Int) (w : World) (hl : Sl w x_held_v 2 (x_held.map pceCells)) (hm : ∀ p ∈ x_held, p.text.size ≤ maxLen) (h0 : 0 ≤ left) (h1 : left ≤ 1048576) (hd : x_data.size ≤ maxLen) : Calls Try.prog 31 #[.agg #[.int .i64 x_next, .string x_data, x_held_v, .int .i64 x_fin, .bool x_done], .int .i64 left] w fun e w' => ∃ r : Int, e = .returned (.int .i64 r) ∧ (r = -1 ∨ (0 ≤ r ∧ r ≤ left ∧ x_data.size ≤ left ∧ PcFit left r x_held)) ∧ Below w.heap.size w w' := by
  unfold maxLen at hd
  have HL := Lib.hid hl; have HM := Lib.hid hm; clear hl hm
  by_cases h : left < x_data.size
  · go_enter Try.func31, Try.ntmps31
    go_wp2
    refine bodyPost_ret (v := .int .i64 (-1)) (by simp [results, Try.results31]) rfl ⟨_, rfl, .inl rfl, ?_⟩
    (repeat' (first | (with_reducible exact Below.refl _ _) | (with_reducible refine Below.alloc ?_ ?_ _) | (with_reducible refine belowGrow ?_ ?_ _ _) | (with_reducible refine Below.setCell ?_ ?_ _) | (with_reducible refine Below.drew ?_) | (with_reducible refine bdrewN ?_ _) | (with_reducible assumption) | (with_reducible refine bstep ?_ (by assumption) ?_) | (simp only [World.size_alloc, World.size_setCell, World.size_drew, World.heap_drewN, size_grow]; done) | (simp only [World.size_alloc, World.size_setCell, World.size_drew, World.heap_drewN, size_grow]; omega) | omega))
  · have hl0 : (0 : Int) ≤ left - x_data.size := by omega
    go_enter Try.func31, Try.ntmps31
    go_wp2_with fail
    refine (szPieceS_c _ x_held _ _ (HL.out.kept (B := w.heap.size) (by (repeat' (first | (with_reducible exact Below.refl _ _) | (with_reducible refine Below.alloc ?_ ?_ _) | (with_reducible refine belowGrow ?_ ?_ _ _) | (with_reducible refine Below.setCell ?_ ?_ _) | (with_reducible refine Below.drew ?_) | (with_reducible refine bdrewN ?_ _) | (with_reducible assumption) | (with_reducible refine bstep ?_ (by assumption) ?_) | (simp only [World.size_alloc, World.size_setCell, World.size_drew, World.heap_drewN, size_grow]; done) | (simp only [World.size_alloc, World.size_setCell, World.size_drew, World.heap_drewN, size_grow]; omega) | omega))) (Nat.le_refl _)) HM.out hl0 (by omega)).mono ?_
    rintro e w1 ⟨r, rfl, hr, hb1⟩
    obtain ⟨d1, os1, rfl⟩ := below_grow hb1; clear hb1
    rcases hr with rfl | ⟨hr0, hr1, hr2, hr3⟩
    · go_wp2
      refine bodyPost_ret (v := .int .i64 (-1)) (by simp [results, Try.results31]) rfl ⟨_, rfl, .inl rfl, ?_⟩
      (repeat' (first | (with_reducible exact Below.refl _ _) | (with_reducible refine Below.alloc ?_ ?_ _) | (with_reducible refine belowGrow ?_ ?_ _ _) | (with_reducible refine Below.setCell ?_ ?_ _) | (with_reducible refine Below.drew ?_) | (with_reducible refine bdrewN ?_ _) | (with_reducible assumption) | (with_reducible refine bstep ?_ (by assumption) ?_) | (simp only [World.size_alloc, World.size_setCell, World.size_drew, World.heap_drewN, size_grow]; done) | (simp only [World.size_alloc, World.size_setCell, World.size_drew, World.heap_drewN, size_grow]; omega) | omega))
    · have HR := Lib.hid hr3; clear hr3
      go_wp2
      refine bodyPost_ret (v := .int .i64 r) (by simp [results, Try.results31]) rfl ⟨_, rfl, .inr ⟨hr0, by omega, by omega, .inr ⟨hr0, by omega, by omega, fun p hp => by have := HR.out p hp; omega⟩⟩, ?_⟩
      (repeat' (first | (with_reducible exact Below.refl _ _) | (with_reducible refine Below.alloc ?_ ?_ _) | (with_reducible refine belowGrow ?_ ?_ _ _) | (with_reducible refine Below.setCell ?_ ?_ _) | (with_reducible refine Below.drew ?_) | (with_reducible refine bdrewN ?_ _) | (with_reducible assumption) | (with_reducible refine bstep ?_ (by assumption) ?_) | (simp only [World.size_alloc, World.size_setCell, World.size_drew, World.heap_drewN, size_grow]; done) | (simp only [World.size_alloc, World.size_setCell, World.size_drew, World.heap_drewN, size_grow]; omega) | omega))
/-- What the size's count says of a connection. -/
def ConFit (n : Int) (c : Con) : Prop := c.s.data.size ≤ n ∧ c.r.data.size ≤ n ∧ c.r.held.length ≤ n ∧ ∀ p ∈ c.r.held, p.text.size ≤ n
theorem szConn_c (x_t_ip : Int) (x_t_port : Int) (x_t_my : Int) (x_state : Int) (x_s_una : Int) (x_s_data : ByteArray) (x_s_sent : Int) (x_s_fin : Bool) (x_s_finSent : Bool) (x_s_done : Bool) (x_r_next : Int) (x_r_data : ByteArray) (x_r_held : List Pce) (x_r_held_v : Value) (x_r_fin : Int) (x_r_done : Bool) (x_window : Int) (x_most : Int) (x_o_mss : Int) (x_o_scale : Int) (x_o_sack : Bool) (x_o_stamp : Bool) (x_o_val : Int) (x_o_echo : Int) (x_timer : Int) (x_tries : Int) (left : Int) (w : World) (hl : Sl w x_r_held_v 2 (x_r_held.map pceCells)) (hm : ∀ p ∈ x_r_held, p.text.size ≤ maxLen) (h0 : 0 ≤ left) (h1 : left ≤ 1048576) (hd : x_r_data.size ≤ maxLen) (hsd : x_s_data.size ≤ maxLen) : Calls Try.prog 53 #[.agg #[.int .i64 x_t_ip, .int .i64 x_t_port, .int .i64 x_t_my, .int .i64 x_state, .int .i64 x_s_una, .string x_s_data, .int .i64 x_s_sent, .bool x_s_fin, .bool x_s_finSent, .bool x_s_done, .int .i64 x_r_next, .string x_r_data, x_r_held_v, .int .i64 x_r_fin, .bool x_r_done, .int .i64 x_window, .int .i64 x_most, .int .i64 x_o_mss, .int .i64 x_o_scale, .bool x_o_sack, .bool x_o_stamp, .int .i64 x_o_val, .int .i64 x_o_echo, .int .i64 x_timer, .int .i64 x_tries], .int .i64 left] w fun e w' => ∃ r : Int, e = .returned (.int .i64 r) ∧ (r = -1 ∨ (0 ≤ r ∧ r ≤ left ∧ ConFit left ⟨⟨x_t_ip, x_t_port, x_t_my⟩, x_state, ⟨x_s_una, x_s_data, x_s_sent, x_s_fin, x_s_finSent, x_s_done⟩, ⟨x_r_next, x_r_data, x_r_held, x_r_fin, x_r_done⟩, x_window, x_most, ⟨x_o_mss, x_o_scale, x_o_sack, x_o_stamp, x_o_val, x_o_echo⟩, x_timer, x_tries⟩)) ∧ Below w.heap.size w w' := by
  have HL := Lib.hid hl; have HM := Lib.hid hm; clear hl hm
  by_cases h : left < x_s_data.size
  · go_enter Try.func53, Try.ntmps53
    go_wp2_with (go_at_call 124; with_reducible refine (szSender_c _ _ _ _ _ _ _ _ h0 h1 hsd).mono ?_; rintro e w1 ⟨rfl, hb1⟩; obtain ⟨d1, os1, rfl⟩ := below_grow hb1; clear hb1; rw [if_pos h])
    refine bodyPost_ret (v := .int .i64 (-1)) (by simp [results, Try.results53]) rfl ⟨_, rfl, .inl rfl, ?_⟩
    (repeat' (first | (with_reducible exact Below.refl _ _) | (with_reducible refine Below.alloc ?_ ?_ _) | (with_reducible refine belowGrow ?_ ?_ _ _) | (with_reducible refine Below.setCell ?_ ?_ _) | (with_reducible refine Below.drew ?_) | (with_reducible refine bdrewN ?_ _) | (with_reducible assumption) | (with_reducible refine bstep ?_ (by assumption) ?_) | (simp only [World.size_alloc, World.size_setCell, World.size_drew, World.heap_drewN, size_grow]; done) | (simp only [World.size_alloc, World.size_setCell, World.size_drew, World.heap_drewN, size_grow]; omega) | omega))
  · have hl0 : (0 : Int) ≤ left - x_s_data.size := by omega
    go_enter Try.func53, Try.ntmps53
    go_wp2_with fail
    refine (szSender_c _ _ _ _ _ _ _ _ h0 h1 hsd).mono ?_
    rintro e w1 ⟨rfl, hb1⟩; obtain ⟨d1, os1, rfl⟩ := below_grow hb1; clear hb1
    rw [if_neg (by omega)]
    go_wp2_with fail
    refine (szReceiver_c _ _ x_r_held _ _ _ _ _ (HL.out.kept (B := w.heap.size) (by (repeat' (first | (with_reducible exact Below.refl _ _) | (with_reducible refine Below.alloc ?_ ?_ _) | (with_reducible refine belowGrow ?_ ?_ _ _) | (with_reducible refine Below.setCell ?_ ?_ _) | (with_reducible refine Below.drew ?_) | (with_reducible refine bdrewN ?_ _) | (with_reducible assumption) | (with_reducible refine bstep ?_ (by assumption) ?_) | (simp only [World.size_alloc, World.size_setCell, World.size_drew, World.heap_drewN, size_grow]; done) | (simp only [World.size_alloc, World.size_setCell, World.size_drew, World.heap_drewN, size_grow]; omega) | omega))) (Nat.le_refl _)) HM.out hl0 (by omega) hd).mono ?_
    rintro e w2 ⟨r, rfl, hr, hb2⟩
    obtain ⟨d2, os2, rfl⟩ := below_grow hb2; clear hb2
    rcases hr with rfl | ⟨hr0, hr1, hr2, hr3⟩
    · go_wp2
      refine bodyPost_ret (v := .int .i64 (-1)) (by simp [results, Try.results53]) rfl ⟨_, rfl, .inl rfl, ?_⟩
      (repeat' (first | (with_reducible exact Below.refl _ _) | (with_reducible refine Below.alloc ?_ ?_ _) | (with_reducible refine belowGrow ?_ ?_ _ _) | (with_reducible refine Below.setCell ?_ ?_ _) | (with_reducible refine Below.drew ?_) | (with_reducible refine bdrewN ?_ _) | (with_reducible assumption) | (with_reducible refine bstep ?_ (by assumption) ?_) | (simp only [World.size_alloc, World.size_setCell, World.size_drew, World.heap_drewN, size_grow]; done) | (simp only [World.size_alloc, World.size_setCell, World.size_drew, World.heap_drewN, size_grow]; omega) | omega))
    · have HR := Lib.hid hr3; clear hr3
      go_wp2
      refine bodyPost_ret (v := .int .i64 r) (by simp [results, Try.results53]) rfl ⟨_, rfl, .inr ⟨hr0, by omega, ?_⟩, ?_⟩
      · rcases HR.out with h | ⟨_, _, h2, h3⟩
        · omega
        · exact ⟨by simp only; omega, by simp only; omega, by simp only; omega, fun p hp => by have := h3 p hp; omega⟩
      · (repeat' (first | (with_reducible exact Below.refl _ _) | (with_reducible refine Below.alloc ?_ ?_ _) | (with_reducible refine belowGrow ?_ ?_ _ _) | (with_reducible refine Below.setCell ?_ ?_ _) | (with_reducible refine Below.drew ?_) | (with_reducible refine bdrewN ?_ _) | (with_reducible assumption) | (with_reducible refine bstep ?_ (by assumption) ?_) | (simp only [World.size_alloc, World.size_setCell, World.size_drew, World.heap_drewN, size_grow]; done) | (simp only [World.size_alloc, World.size_setCell, World.size_drew, World.heap_drewN, size_grow]; omega) | omega))
set_option maxHeartbeats 1000000 in
theorem toReceiver_c (x_next : Int) (x_data : ByteArray) (x_held : List Pce) (x_held_v : Value) (x_fin : Int) (x_done : Bool) (w : World) (hl : Sl w x_held_v 2 (x_held.map pceCells)) (hn : x_held.length ≤ 1048576) : Calls Try.prog 33 #[.agg #[.int .i64 x_next, .string x_data, x_held_v, .int .i64 x_fin, .bool x_done]] w fun e w' => ∃ v' : Value, e = .returned (.agg #[.int .i64 x_next, .string x_data, v', .int .i64 x_fin, .bool x_done]) ∧ Own w' w.heap.size v' 2 (x_held.map pceCells) ∧ Below w.heap.size w w' := by
  have HL := Lib.hid hl; clear hl
  go_enter Try.func33, Try.ntmps33
  go_wp2_with fail
  refine (toPieceS_c _ x_held _ (HL.out.kept (B := w.heap.size) (by (repeat' (first | (with_reducible exact Below.refl _ _) | (with_reducible refine Below.alloc ?_ ?_ _) | (with_reducible refine belowGrow ?_ ?_ _ _) | (with_reducible refine Below.setCell ?_ ?_ _) | (with_reducible refine Below.drew ?_) | (with_reducible refine bdrewN ?_ _) | (with_reducible assumption) | (with_reducible refine bstep ?_ (by assumption) ?_) | (simp only [World.size_alloc, World.size_setCell, World.size_drew, World.heap_drewN, size_grow]; done) | (simp only [World.size_alloc, World.size_setCell, World.size_drew, World.heap_drewN, size_grow]; omega) | omega))) (Nat.le_refl _)) hn).mono ?_
  rintro e w1 ⟨v1, rfl, hO1, hb1⟩
  obtain ⟨a1, cap1, rfl⟩ := hO1.form
  obtain ⟨d1, os1, rfl⟩ := below_grow hb1; clear hb1
  go_wp2
  refine bodyPost_ret (v := .agg #[.int .i64 x_next, .string x_data, .slice a1 _ cap1, .int .i64 x_fin, .bool x_done]) (by simp [results, Try.results33, go_sem, *]) rfl ⟨_, rfl, (hO1.mid (by (repeat' (first | (with_reducible exact Mid.refl _ _ _) | (with_reducible refine Mid.swap ?_) | (with_reducible refine Mid.grow ?_ ?_ _ _) | (with_reducible refine Mid.alloc ?_ ?_ _) | (with_reducible refine Mid.setCell ?_ ?_ _) | (with_reducible refine Mid.drew ?_) | (with_reducible refine Mid.drewN ?_ _) | (with_reducible refine Mid.below ?_ (by assumption) ?_) | (simp only [World.size_alloc, World.size_setCell, World.size_drew, World.heap_drewN, size_grow]; done) | (simp only [World.size_alloc, World.size_setCell, World.size_drew, World.heap_drewN, size_grow]; omega) | omega)))).lower (by simp only [World.size_alloc, World.size_setCell, World.size_drew, World.heap_drewN, size_grow]; omega), ?_⟩
  (repeat' (first | (with_reducible exact Below.refl _ _) | (with_reducible refine Below.alloc ?_ ?_ _) | (with_reducible refine belowGrow ?_ ?_ _ _) | (with_reducible refine Below.setCell ?_ ?_ _) | (with_reducible refine Below.drew ?_) | (with_reducible refine bdrewN ?_ _) | (with_reducible assumption) | (with_reducible refine bstep ?_ (by assumption) ?_) | (simp only [World.size_alloc, World.size_setCell, World.size_drew, World.heap_drewN, size_grow]; done) | (simp only [World.size_alloc, World.size_setCell, World.size_drew, World.heap_drewN, size_grow]; omega) | omega))
set_option maxHeartbeats 4000000 in
theorem toConn_c (x_t_ip : Int) (x_t_port : Int) (x_t_my : Int) (x_state : Int) (x_s_una : Int) (x_s_data : ByteArray) (x_s_sent : Int) (x_s_fin : Bool) (x_s_finSent : Bool) (x_s_done : Bool) (x_r_next : Int) (x_r_data : ByteArray) (x_r_held : List Pce) (x_r_held_v : Value) (x_r_fin : Int) (x_r_done : Bool) (x_window : Int) (x_most : Int) (x_o_mss : Int) (x_o_scale : Int) (x_o_sack : Bool) (x_o_stamp : Bool) (x_o_val : Int) (x_o_echo : Int) (x_timer : Int) (x_tries : Int) (w : World) (hl : Sl w x_r_held_v 2 (x_r_held.map pceCells)) (hn : x_r_held.length ≤ 1048576) : Calls Try.prog 55 #[.agg #[.int .i64 x_t_ip, .int .i64 x_t_port, .int .i64 x_t_my, .int .i64 x_state, .int .i64 x_s_una, .string x_s_data, .int .i64 x_s_sent, .bool x_s_fin, .bool x_s_finSent, .bool x_s_done, .int .i64 x_r_next, .string x_r_data, x_r_held_v, .int .i64 x_r_fin, .bool x_r_done, .int .i64 x_window, .int .i64 x_most, .int .i64 x_o_mss, .int .i64 x_o_scale, .bool x_o_sack, .bool x_o_stamp, .int .i64 x_o_val, .int .i64 x_o_echo, .int .i64 x_timer, .int .i64 x_tries]] w fun e w' => ∃ v' : Value, e = .returned (.agg #[.int .i64 x_t_ip, .int .i64 x_t_port, .int .i64 x_t_my, .int .i64 x_state, .int .i64 x_s_una, .string x_s_data, .int .i64 x_s_sent, .bool x_s_fin, .bool x_s_finSent, .bool x_s_done, .int .i64 x_r_next, .string x_r_data, v', .int .i64 x_r_fin, .bool x_r_done, .int .i64 x_window, .int .i64 x_most, .int .i64 x_o_mss, .int .i64 x_o_scale, .bool x_o_sack, .bool x_o_stamp, .int .i64 x_o_val, .int .i64 x_o_echo, .int .i64 x_timer, .int .i64 x_tries]) ∧ Own w' w.heap.size v' 2 (x_r_held.map pceCells) ∧ Below w.heap.size w w' := by
  have HL := Lib.hid hl; clear hl
  go_enter Try.func55, Try.ntmps55
  go_wp2_with fail
  refine (toTuple_c _ _ _ _).mono ?_
  rintro e w1 ⟨rfl, hb1⟩; obtain ⟨d1, os1, rfl⟩ := below_grow hb1; clear hb1
  go_wp2_with fail
  refine (toSender_c _ _ _ _ _ _ _).mono ?_
  rintro e w2 ⟨rfl, hb2⟩; obtain ⟨d2, os2, rfl⟩ := below_grow hb2; clear hb2
  go_wp2_with fail
  refine (toReceiver_c _ _ x_r_held _ _ _ _ (HL.out.kept (B := w.heap.size) (by (repeat' (first | (with_reducible exact Below.refl _ _) | (with_reducible refine Below.alloc ?_ ?_ _) | (with_reducible refine belowGrow ?_ ?_ _ _) | (with_reducible refine Below.setCell ?_ ?_ _) | (with_reducible refine Below.drew ?_) | (with_reducible refine bdrewN ?_ _) | (with_reducible assumption) | (with_reducible refine bstep ?_ (by assumption) ?_) | (simp only [World.size_alloc, World.size_setCell, World.size_drew, World.heap_drewN, size_grow]; done) | (simp only [World.size_alloc, World.size_setCell, World.size_drew, World.heap_drewN, size_grow]; omega) | omega))) (Nat.le_refl _)) hn).mono ?_
  rintro e w3 ⟨v3, rfl, hO3, hb3⟩
  obtain ⟨a3, cap3, rfl⟩ := hO3.form
  obtain ⟨d3, os3, rfl⟩ := below_grow hb3; clear hb3
  go_wp2_with fail
  refine (toOptions_c _ _ _ _ _ _ _).mono ?_
  rintro e w4 ⟨rfl, hb4⟩; obtain ⟨d4, os4, rfl⟩ := below_grow hb4; clear hb4
  go_wp2
  refine bodyPost_ret (v := .agg #[.int .i64 x_t_ip, .int .i64 x_t_port, .int .i64 x_t_my, .int .i64 x_state, .int .i64 x_s_una, .string x_s_data, .int .i64 x_s_sent, .bool x_s_fin, .bool x_s_finSent, .bool x_s_done, .int .i64 x_r_next, .string x_r_data, .slice a3 _ cap3, .int .i64 x_r_fin, .bool x_r_done, .int .i64 x_window, .int .i64 x_most, .int .i64 x_o_mss, .int .i64 x_o_scale, .bool x_o_sack, .bool x_o_stamp, .int .i64 x_o_val, .int .i64 x_o_echo, .int .i64 x_timer, .int .i64 x_tries]) ((res_implConn Try.results55 _ _ _ rfl (by simp [go_sem])).trans (by simp [go_sem])) rfl ⟨_, rfl, (hO3.mid (by (repeat' (first | (with_reducible exact Mid.refl _ _ _) | (with_reducible refine Mid.swap ?_) | (with_reducible refine Mid.grow ?_ ?_ _ _) | (with_reducible refine Mid.alloc ?_ ?_ _) | (with_reducible refine Mid.setCell ?_ ?_ _) | (with_reducible refine Mid.drew ?_) | (with_reducible refine Mid.drewN ?_ _) | (with_reducible refine Mid.below ?_ (by assumption) ?_) | (simp only [World.size_alloc, World.size_setCell, World.size_drew, World.heap_drewN, size_grow]; done) | (simp only [World.size_alloc, World.size_setCell, World.size_drew, World.heap_drewN, size_grow]; omega) | omega)))).lower (by simp only [World.size_alloc, World.size_setCell, World.size_drew, World.heap_drewN, size_grow]; omega), ?_⟩
  (repeat' (first | (with_reducible exact Below.refl _ _) | (with_reducible refine Below.alloc ?_ ?_ _) | (with_reducible refine belowGrow ?_ ?_ _ _) | (with_reducible refine Below.setCell ?_ ?_ _) | (with_reducible refine Below.drew ?_) | (with_reducible refine bdrewN ?_ _) | (with_reducible assumption) | (with_reducible refine bstep ?_ (by assumption) ?_) | (simp only [World.size_alloc, World.size_setCell, World.size_drew, World.heap_drewN, size_grow]; done) | (simp only [World.size_alloc, World.size_setCell, World.size_drew, World.heap_drewN, size_grow]; omega) | omega))
theorem eqReceiver_c (x_next : Int) (x_data : ByteArray) (x_held : List Pce) (x_held_v : Value) (x_fin : Int) (x_done : Bool) (u : Value) (w : World) (hl : Sl w x_held_v 2 (x_held.map pceCells)) (hu : Sl w u 2 (x_held.map pceCells)) : Calls Try.prog 35 #[.agg #[.int .i64 x_next, .string x_data, x_held_v, .int .i64 x_fin, .bool x_done], .agg #[.int .i64 x_next, .string x_data, u, .int .i64 x_fin, .bool x_done]] w fun e w' => e = .returned (.bool true) ∧ Below w.heap.size w w' := by
  have HL := Lib.hid hl; have HU := Lib.hid hu; clear hl hu
  go_enter Try.func35, Try.ntmps35
  go_wp2_with fail
  refine (eqPieceS_c _ _ x_held _ (HL.out.kept (B := w.heap.size) (by (repeat' (first | (with_reducible exact Below.refl _ _) | (with_reducible refine Below.alloc ?_ ?_ _) | (with_reducible refine belowGrow ?_ ?_ _ _) | (with_reducible refine Below.setCell ?_ ?_ _) | (with_reducible refine Below.drew ?_) | (with_reducible refine bdrewN ?_ _) | (with_reducible assumption) | (with_reducible refine bstep ?_ (by assumption) ?_) | (simp only [World.size_alloc, World.size_setCell, World.size_drew, World.heap_drewN, size_grow]; done) | (simp only [World.size_alloc, World.size_setCell, World.size_drew, World.heap_drewN, size_grow]; omega) | omega))) (Nat.le_refl _)) (HU.out.kept (B := w.heap.size) (by (repeat' (first | (with_reducible exact Below.refl _ _) | (with_reducible refine Below.alloc ?_ ?_ _) | (with_reducible refine belowGrow ?_ ?_ _ _) | (with_reducible refine Below.setCell ?_ ?_ _) | (with_reducible refine Below.drew ?_) | (with_reducible refine bdrewN ?_ _) | (with_reducible assumption) | (with_reducible refine bstep ?_ (by assumption) ?_) | (simp only [World.size_alloc, World.size_setCell, World.size_drew, World.heap_drewN, size_grow]; done) | (simp only [World.size_alloc, World.size_setCell, World.size_drew, World.heap_drewN, size_grow]; omega) | omega))) (Nat.le_refl _))).mono ?_
  rintro e w1 ⟨rfl, hb1⟩; obtain ⟨d1, os1, rfl⟩ := below_grow hb1; clear hb1
  go_wp2
  refine bodyPost_ret (v := .bool true) (by simp [results, Try.results35]) rfl ⟨rfl, ?_⟩
  (repeat' (first | (with_reducible exact Below.refl _ _) | (with_reducible refine Below.alloc ?_ ?_ _) | (with_reducible refine belowGrow ?_ ?_ _ _) | (with_reducible refine Below.setCell ?_ ?_ _) | (with_reducible refine Below.drew ?_) | (with_reducible refine bdrewN ?_ _) | (with_reducible assumption) | (with_reducible refine bstep ?_ (by assumption) ?_) | (simp only [World.size_alloc, World.size_setCell, World.size_drew, World.heap_drewN, size_grow]; done) | (simp only [World.size_alloc, World.size_setCell, World.size_drew, World.heap_drewN, size_grow]; omega) | omega))
set_option maxHeartbeats 2000000 in
theorem eqConn_c (x_t_ip : Int) (x_t_port : Int) (x_t_my : Int) (x_state : Int) (x_s_una : Int) (x_s_data : ByteArray) (x_s_sent : Int) (x_s_fin : Bool) (x_s_finSent : Bool) (x_s_done : Bool) (x_r_next : Int) (x_r_data : ByteArray) (x_r_held : List Pce) (x_r_held_v : Value) (x_r_fin : Int) (x_r_done : Bool) (x_window : Int) (x_most : Int) (x_o_mss : Int) (x_o_scale : Int) (x_o_sack : Bool) (x_o_stamp : Bool) (x_o_val : Int) (x_o_echo : Int) (x_timer : Int) (x_tries : Int) (u : Value) (w : World) (hl : Sl w x_r_held_v 2 (x_r_held.map pceCells)) (hu : Sl w u 2 (x_r_held.map pceCells)) : Calls Try.prog 28 #[.agg #[.int .i64 x_t_ip, .int .i64 x_t_port, .int .i64 x_t_my, .int .i64 x_state, .int .i64 x_s_una, .string x_s_data, .int .i64 x_s_sent, .bool x_s_fin, .bool x_s_finSent, .bool x_s_done, .int .i64 x_r_next, .string x_r_data, x_r_held_v, .int .i64 x_r_fin, .bool x_r_done, .int .i64 x_window, .int .i64 x_most, .int .i64 x_o_mss, .int .i64 x_o_scale, .bool x_o_sack, .bool x_o_stamp, .int .i64 x_o_val, .int .i64 x_o_echo, .int .i64 x_timer, .int .i64 x_tries], .agg #[.int .i64 x_t_ip, .int .i64 x_t_port, .int .i64 x_t_my, .int .i64 x_state, .int .i64 x_s_una, .string x_s_data, .int .i64 x_s_sent, .bool x_s_fin, .bool x_s_finSent, .bool x_s_done, .int .i64 x_r_next, .string x_r_data, u, .int .i64 x_r_fin, .bool x_r_done, .int .i64 x_window, .int .i64 x_most, .int .i64 x_o_mss, .int .i64 x_o_scale, .bool x_o_sack, .bool x_o_stamp, .int .i64 x_o_val, .int .i64 x_o_echo, .int .i64 x_timer, .int .i64 x_tries]] w fun e w' => e = .returned (.bool true) ∧ Below w.heap.size w w' := by
  have HL := Lib.hid hl; have HU := Lib.hid hu; clear hl hu
  go_enter Try.func28, Try.ntmps28
  go_wp2_with (first | (go_at_call 50; with_reducible refine (eqTuple_c _ _ _ _).mono ?_; rintro e w1 ⟨rfl, hb1⟩; obtain ⟨d1, os1, rfl⟩ := below_grow hb1; clear hb1) | (go_at_call 80; with_reducible refine (eqSender_c _ _ _ _ _ _ _).mono ?_; rintro e w2 ⟨rfl, hb2⟩; obtain ⟨d2, os2, rfl⟩ := below_grow hb2; clear hb2) | (go_at_call 81; with_reducible refine (eqOptions_c _ _ _ _ _ _ _).mono ?_; rintro e w4 ⟨rfl, hb4⟩; obtain ⟨d4, os4, rfl⟩ := below_grow hb4; clear hb4) | (go_at_call 35; refine (eqReceiver_c _ _ x_r_held _ _ _ _ _ (HL.out.kept (B := w.heap.size) (by (repeat' (first | (with_reducible exact Below.refl _ _) | (with_reducible refine Below.alloc ?_ ?_ _) | (with_reducible refine belowGrow ?_ ?_ _ _) | (with_reducible refine Below.setCell ?_ ?_ _) | (with_reducible refine Below.drew ?_) | (with_reducible refine bdrewN ?_ _) | (with_reducible assumption) | (with_reducible refine bstep ?_ (by assumption) ?_) | (simp only [World.size_alloc, World.size_setCell, World.size_drew, World.heap_drewN, size_grow]; done) | (simp only [World.size_alloc, World.size_setCell, World.size_drew, World.heap_drewN, size_grow]; omega) | omega))) (Nat.le_refl _)) (HU.out.kept (B := w.heap.size) (by (repeat' (first | (with_reducible exact Below.refl _ _) | (with_reducible refine Below.alloc ?_ ?_ _) | (with_reducible refine belowGrow ?_ ?_ _ _) | (with_reducible refine Below.setCell ?_ ?_ _) | (with_reducible refine Below.drew ?_) | (with_reducible refine bdrewN ?_ _) | (with_reducible assumption) | (with_reducible refine bstep ?_ (by assumption) ?_) | (simp only [World.size_alloc, World.size_setCell, World.size_drew, World.heap_drewN, size_grow]; done) | (simp only [World.size_alloc, World.size_setCell, World.size_drew, World.heap_drewN, size_grow]; omega) | omega))) (Nat.le_refl _))).mono ?_; rintro e w3 ⟨rfl, hb3⟩; obtain ⟨d3, os3, rfl⟩ := below_grow hb3; clear hb3))
  refine bodyPost_ret (v := .bool true) (by simp [results, Try.results28]) rfl ⟨rfl, ?_⟩
  (repeat' (first | (with_reducible exact Below.refl _ _) | (with_reducible refine Below.alloc ?_ ?_ _) | (with_reducible refine belowGrow ?_ ?_ _ _) | (with_reducible refine Below.setCell ?_ ?_ _) | (with_reducible refine Below.drew ?_) | (with_reducible refine bdrewN ?_ _) | (with_reducible assumption) | (with_reducible refine bstep ?_ (by assumption) ?_) | (simp only [World.size_alloc, World.size_setCell, World.size_drew, World.heap_drewN, size_grow]; done) | (simp only [World.size_alloc, World.size_setCell, World.size_drew, World.heap_drewN, size_grow]; omega) | omega))
end Go.Proofs.Yteoipoenbofemaa
