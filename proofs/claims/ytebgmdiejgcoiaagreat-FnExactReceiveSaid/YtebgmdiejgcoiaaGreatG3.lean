/- Plain definitions, the machine and its rules: what this law's contracts need of them, part 3. -/
import Derived.Test.YtebgmdiejgcoiaaGreatG1
import Derived.Test.YtebgmdiejgcoiaaGreatA3
import Derived.Test.YtebgmdiejgcoiaaGreatA4
import Derived.Test.YtebgmdiejgcoiaaGreatA5
import Derived.Test.YtebgmdiejgcoiaaGreatG2
import Derived.Test.YtebgmdiejgcoiaaGreatYW
import Derived.Test.YtebgmdiejgcoiaaGreatYD
/- Contracts: slices of Piece in the laws. -/
namespace Go.Proofs.YtebgmdiejgcoiaaGreat
open Go.RowKit
attribute [local go_sem] lt_gap le_gap eq_gap gap_eq lt_ones2 lt_ones3 lt_ones4 lt_ones5 lt_ones6 lt_ones7 lt_ones8 lt_gap_1 lt_gap_2 lt_gap_3 lt_gap_4 lt_gap_5 lt_gap_6 size_grow cell?_grow frozen?_grow setCell_grow drew_grow drewN_grow
attribute [local go_sem] boxOf_alloc_at boxOf_alloc_past boxOf_grow boxOf_drew boxOf_drewN isBox_alloc_at isBox_alloc_past isBox_grow isBox_drew isBox_drewN putAt_all putAt setCells_alloc_at setCells_alloc_past setCells_grow setCells_drew
set_option linter.unusedVariables false
set_option linter.unusedSimpArgs false

theorem pceRows_len (l : List Pce) : ∀ r ∈ l.map pceCells, r.length = 2 := fun r h => by obtain ⟨x, -, rfl⟩ := List.mem_map.1 h; rfl
theorem Tryz.info_Piece : (Tryz.prog.info? 85).map (fun i => (i.zero, i.size, i.bytes)) = some (some (.agg #[.int .i64 0, .string ⟨#[]⟩]), 2, 24) := by kernel_rfl
set_option maxRecDepth 100000 in
set_option maxHeartbeats 1000000 in
theorem toPieceS_c (v : Value) (l : List Pce) (w : World) (hl : Sl w v 2 (l.map pceCells)) (hn : l.length ≤ 1048576) : Calls Tryz.prog 92 #[v] w fun e w' => ∃ v', e = .returned v' ∧ Own w' w.heap.size v' 2 (l.map pceCells) ∧ Below w.heap.size w w' := by
  obtain ⟨a, cap, rfl, h2, h3, h4, h5⟩ := hl
  simp only [List.length_map] at h2 ⊢
  unfold maxLen at h3
  have H5 := Lib.hid h5; clear h5
  obtain ⟨i0, hi, hz0, hz1, hz2⟩ := info_parts Tryz.info_Piece
  have his : (Tryz.prog.info? 85).map (·.size) = some 2 := by rw [hi]; simp [hz1]
  have HI := Lib.hid hi; clear hi
  go_enter Tryz.func92, Tryz.ntmps92
  go_wp2_with ((refine wpList_make_full _ rfl _ _ 39 rfl w.heap.size 85 i0 _ 2 Tryz.underlying39 HI.out hz0 hz1 .i64 .i64 _ _ l.length (by rfl) (by rfl) (by rfl) (by rfl) (by rw [hz2]; omega) (by unfold maxLen; omega) (Nat.le_refl _) ?_); intro w1 hown hgrow)
  have hF : Fill w1 w.heap.size l.length 2 (l.map pceCells) 0 := Fill.start hown
  have hB : Below w.heap.size w w1 := (Below.refl _ _).grown hgrow (Nat.le_refl _) (fun k h => by simp at h)
  have hsz : w.heap.size < w1.heap.size := by
    rcases hown.2 with ⟨h, _⟩ | ⟨g, cap, cur, h, _, hh, _⟩
    · simp at h
    · simp at h; obtain ⟨rfl, rfl⟩ := h; exact (Array.getElem?_eq_some_iff.1 hh).1
  clear hown hgrow
  go_loopw [4] (fun i wr => ∃ k : Nat, k ≤ l.length ∧ i = .int .i64 k ∧ Below w.heap.size w wr ∧ w.heap.size < wr.heap.size ∧ Hid (Fill wr w.heap.size l.length 2 (l.map pceCells) k)) (fun i _ => l.length - (intOf i).toNat)
  case atStart => exact ⟨0, Nat.zero_le _, rfl, hB, hsz, hF⟩
  case round =>
    clear hF hB hsz
    obtain ⟨k, hk, rfl, hB, hsz, hF⟩ := hrel
    by_cases hlt : k < l.length
    · obtain ⟨x, hx⟩ : ∃ x, l[k]? = some x := ⟨_, List.getElem?_eq_getElem hlt⟩
      obtain ⟨b, off, rfl, hbw, hr⟩ := H5.out k (pceCells x) (by simp [hx])
      have hr := Below.rangeAt hB hbw hr
      have hrow : (l.map pceCells)[k]? = some (pceCells x) := by simp [hx]
      have HX := Lib.hid hrow; clear hx hrow
      obtain ⟨x_off, x_text⟩ := x
      have c0 := hr 0 _ rfl
      have c1 := hr 1 _ rfl
      simp only [Nat.add_zero] at c0
      clear hr
      have hk0 : (0 : Int) ≤ (k : Int) := Int.natCast_nonneg _
      have hk1 : (k : Int) < (l.length : Int) := by omega
      go_wp2_with (go_at_call 128; with_reducible refine (toPiece_c _ _ _).mono ?_; rintro e w2 ⟨rfl, hb2⟩; have hF2 := Lib.hid (hF.out.below hb2 hsz); obtain ⟨⟨o0, ho0⟩, ff0⟩ := Fill.old hF2.out hlt 0 (by omega); obtain ⟨⟨o1, ho1⟩, ff1⟩ := Fill.old hF2.out hlt 1 (by omega); simp only [Nat.add_zero] at ho0 ff0)
      have hst := hF2.out.step (pceRows_len l) HX.out (by simp)
      have hB2 : Below w.heap.size w (w2.setCells w.heap.size (k * 2) (pceCells ⟨x_off, x_text⟩)) := Below.setCells (Nat.le_refl _) _ _ (hB.trans (hb2.mono (by omega)))
      have hs2 : w.heap.size < (w2.setCells w.heap.size (k * 2) (pceCells ⟨x_off, x_text⟩)).heap.size := by rw [size_setCells]; have := hb2.size; omega
      have HS := Lib.hid hst; clear hst
      go_wp2
      go_roundw
      case rel => exact ⟨k + 1, by omega, by go_num, hB2, hs2, HS.out⟩
      case measure => simp [intOf]; omega
    · obtain rfl : k = l.length := by omega
      go_wp2
      refine bodyPost_ret (by simp [results, Tryz.results92]) rfl ⟨_, rfl, hF.out.own (by simp) (Nat.le_refl _) hsz (by unfold maxLen; omega), hB⟩
set_option maxHeartbeats 1000000 in
theorem eqPieceS_c (v u : Value) (l : List Pce) (w : World) (hl : Sl w v 2 (l.map pceCells)) (hu : Sl w u 2 (l.map pceCells)) : Calls Tryz.prog 104 #[v, u] w fun e w' => e = .returned (.bool true) ∧ Below w.heap.size w w' := by
  obtain ⟨a, cap, rfl, h2, h3, h4, h5⟩ := hl
  obtain ⟨a', cap', rfl, h2', h3', h4', h5'⟩ := hu
  simp only [List.length_map] at h2 h2' ⊢
  unfold maxLen at h3 h3'
  have H5 := Lib.hid h5; clear h5
  have H5' := Lib.hid h5'; clear h5'
  go_enter Tryz.func104, Tryz.ntmps104
  go_wp2
  go_loopw [5] (fun i wr => ∃ k : Nat, k ≤ l.length ∧ i = .int .i64 k ∧ Below w.heap.size w wr) (fun i _ => l.length - (intOf i).toNat)
  case atStart => exact ⟨0, Nat.zero_le _, rfl, Below.refl _ _⟩
  case round =>
    obtain ⟨k, hk, rfl, hB⟩ := hrel
    by_cases hlt : k < l.length
    · obtain ⟨x, hx⟩ : ∃ x, l[k]? = some x := ⟨_, List.getElem?_eq_getElem hlt⟩
      obtain ⟨b, off, rfl, hbw, hr⟩ := H5.out k (pceCells x) (by simp [hx])
      obtain ⟨b', off', rfl, hbw', hr'⟩ := H5'.out k (pceCells x) (by simp [hx])
      have hr := Below.rangeAt hB hbw hr
      have hr' := Below.rangeAt hB hbw' hr'
      have hbz : b < wr.heap.size := by have := hB.size; omega
      have hbz' : b' < wr.heap.size := by have := hB.size; omega
      clear hx
      have hk0 : (0 : Int) ≤ (k : Int) := Int.natCast_nonneg _
      have hk1 : (k : Int) < (l.length : Int) := by omega
      have hBs := hB.size
      obtain ⟨x_off, x_text⟩ := x
      have c0 := hr 0 _ rfl
      have c1 := hr 1 _ rfl
      have d0 := hr' 0 _ rfl
      have d1 := hr' 1 _ rfl
      simp only [Nat.add_zero] at c0 d0
      clear hr hr'
      go_wp2
      go_region_held3 (fun w' => w'.cell? ⟨b, off + k * 2, none⟩ = some (.int .i64 x_off) ∧ w'.cell? ⟨b, off + k * 2 + 1, none⟩ = some (.string x_text) ∧ w'.cell? ⟨b', off' + k * 2, none⟩ = some (.int .i64 x_off) ∧ w'.cell? ⟨b', off' + k * 2 + 1, none⟩ = some (.string x_text))
        (first | exact ⟨(hb2.cell (p := ⟨b, _, none⟩) hbz).trans c0, (hb2.cell (p := ⟨b, _, none⟩) hbz).trans c1, (hb2.cell (p := ⟨b', _, none⟩) hbz').trans d0, (hb2.cell (p := ⟨b', _, none⟩) hbz').trans d1⟩ | go_keep)
        (first | (go_at_call 131; refine (eqPiece_c x_off x_text _).mono ?_; rintro e w2 ⟨rfl, hb2⟩))
      go_wp2
      go_roundw
      case rel => exact ⟨k + 1, by omega, by go_num, by (repeat' (first | (with_reducible exact Below.refl _ _) | (with_reducible refine Below.alloc ?_ ?_ _) | (with_reducible refine belowGrow ?_ ?_ _ _) | (with_reducible refine Below.setCell ?_ ?_ _) | (with_reducible refine Below.drew ?_) | (with_reducible refine bdrewN ?_ _) | (with_reducible assumption) | (with_reducible refine bstep ?_ (by assumption) ?_) | (simp only [World.size_alloc, World.size_setCell, World.size_drew, World.heap_drewN, size_grow]; done) | (simp only [World.size_alloc, World.size_setCell, World.size_drew, World.heap_drewN, size_grow]; omega) | omega))⟩
      case measure => simp [intOf]; omega
    · obtain rfl : k = l.length := by omega
      go_wp2
      refine bodyPost_ret (v := .bool true) (by simp [results, Tryz.results104]) rfl ⟨rfl, hB⟩
end Go.Proofs.YtebgmdiejgcoiaaGreat
/- Contracts (C1). -/
namespace Go.Proofs.YtebgmdiejgcoiaaGreat
open Go.RowKit
attribute [local go_sem] lt_gap le_gap eq_gap gap_eq lt_ones2 lt_ones3 lt_ones4 lt_ones5 lt_ones6 lt_ones7 lt_ones8 lt_gap_1 lt_gap_2 lt_gap_3 lt_gap_4 lt_gap_5 lt_gap_6 size_grow cell?_grow frozen?_grow setCell_grow drew_grow drewN_grow
attribute [local go_sem] boxOf_alloc_at boxOf_alloc_past boxOf_grow boxOf_drew boxOf_drewN isBox_alloc_at isBox_alloc_past isBox_grow isBox_drew isBox_drewN putAt_all putAt setCells_alloc_at setCells_alloc_past setCells_grow setCells_drew
attribute [local go_sem ↓] pload_implConn pstore_implConn pload_lawsConn pstore_lawsConn pload_implReceiver pstore_implReceiver pload_lawsReceiver pstore_lawsReceiver pload_implSegment pstore_implSegment pload_lawsSegment pstore_lawsSegment
attribute [local go_sem] Value.oneCell' load_implConn store_implConn load_lawsConn store_lawsConn load_implReceiver store_implReceiver load_lawsReceiver store_lawsReceiver load_implSegment store_implSegment load_lawsSegment store_lawsSegment
set_option linter.unusedVariables false
set_option linter.unusedSimpArgs false

theorem szPiece_c (x_off : Int) (x_text : ByteArray) (left : Int) (w : World) (h0 : 0 ≤ left) (h1 : left ≤ 1048576) (hm : x_text.size ≤ maxLen) : Calls Tryz.prog 127 #[.agg #[.int .i64 x_off, .string x_text], .int .i64 left] w fun e w' => e = .returned (.int .i64 (if left < x_text.size then -1 else left - x_text.size)) ∧ Below w.heap.size w w' := by
  unfold maxLen at hm
  by_cases h : left < x_text.size
  all_goals
    go_enter Tryz.func127, Tryz.ntmps127
    go_wp2
    refine bodyPost_ret (v := .int .i64 (if left < x_text.size then -1 else left - x_text.size)) (by first | (simp [results, Tryz.results127, *]; done) | (simp [results, Tryz.results127, *]; omega)) rfl ⟨by first | rfl | (split <;> first | rfl | (exfalso; omega)), ?_⟩
    (repeat' (first | (with_reducible exact Below.refl _ _) | (with_reducible refine Below.alloc ?_ ?_ _) | (with_reducible refine belowGrow ?_ ?_ _ _) | (with_reducible refine Below.setCell ?_ ?_ _) | (with_reducible refine Below.drew ?_) | (with_reducible refine bdrewN ?_ _) | (with_reducible assumption) | (with_reducible refine bstep ?_ (by assumption) ?_) | (simp only [World.size_alloc, World.size_setCell, World.size_drew, World.heap_drewN, size_grow]; done) | (simp only [World.size_alloc, World.size_setCell, World.size_drew, World.heap_drewN, size_grow]; omega) | omega))
theorem szSender_c (x_una : Int) (x_data : ByteArray) (x_sent : Int) (x_fin : Bool) (x_finSent : Bool) (x_done : Bool) (left : Int) (w : World) (h0 : 0 ≤ left) (h1 : left ≤ 1048576) (hm : x_data.size ≤ maxLen) : Calls Tryz.prog 31 #[.agg #[.int .i64 x_una, .string x_data, .int .i64 x_sent, .bool x_fin, .bool x_finSent, .bool x_done], .int .i64 left] w fun e w' => e = .returned (.int .i64 (if left < x_data.size then -1 else left - x_data.size)) ∧ Below w.heap.size w w' := by
  unfold maxLen at hm
  by_cases h : left < x_data.size
  all_goals
    go_enter Tryz.func31, Tryz.ntmps31
    go_wp2
    refine bodyPost_ret (v := .int .i64 (if left < x_data.size then -1 else left - x_data.size)) (by first | (simp [results, Tryz.results31, *]; done) | (simp [results, Tryz.results31, *]; omega)) rfl ⟨by first | rfl | (split <;> first | rfl | (exfalso; omega)), ?_⟩
    (repeat' (first | (with_reducible exact Below.refl _ _) | (with_reducible refine Below.alloc ?_ ?_ _) | (with_reducible refine belowGrow ?_ ?_ _ _) | (with_reducible refine Below.setCell ?_ ?_ _) | (with_reducible refine Below.drew ?_) | (with_reducible refine bdrewN ?_ _) | (with_reducible assumption) | (with_reducible refine bstep ?_ (by assumption) ?_) | (simp only [World.size_alloc, World.size_setCell, World.size_drew, World.heap_drewN, size_grow]; done) | (simp only [World.size_alloc, World.size_setCell, World.size_drew, World.heap_drewN, size_grow]; omega) | omega))
theorem szSegment_c (x_src : Int) (x_dst : Int) (x_seq : Int) (x_ack : Int) (x_flags : Int) (x_window : Int) (x_o_mss : Int) (x_o_scale : Int) (x_o_sack : Bool) (x_o_stamp : Bool) (x_o_val : Int) (x_o_echo : Int) (x_body : ByteArray) (left : Int) (w : World) (h0 : 0 ≤ left) (h1 : left ≤ 1048576) (hm : x_body.size ≤ maxLen) : Calls Tryz.prog 7 #[.agg #[.int .i64 x_src, .int .i64 x_dst, .int .i64 x_seq, .int .i64 x_ack, .int .i64 x_flags, .int .i64 x_window, .int .i64 x_o_mss, .int .i64 x_o_scale, .bool x_o_sack, .bool x_o_stamp, .int .i64 x_o_val, .int .i64 x_o_echo, .string x_body], .int .i64 left] w fun e w' => e = .returned (.int .i64 (if left < x_body.size then -1 else left - x_body.size)) ∧ Below w.heap.size w w' := by
  unfold maxLen at hm
  by_cases h : left < x_body.size
  all_goals
    go_enter Tryz.func7, Tryz.ntmps7
    go_wp2
    refine bodyPost_ret (v := .int .i64 (if left < x_body.size then -1 else left - x_body.size)) (by first | (simp [results, Tryz.results7, *]; done) | (simp [results, Tryz.results7, *]; omega)) rfl ⟨by first | rfl | (split <;> first | rfl | (exfalso; omega)), ?_⟩
    (repeat' (first | (with_reducible exact Below.refl _ _) | (with_reducible refine Below.alloc ?_ ?_ _) | (with_reducible refine belowGrow ?_ ?_ _ _) | (with_reducible refine Below.setCell ?_ ?_ _) | (with_reducible refine Below.drew ?_) | (with_reducible refine bdrewN ?_ _) | (with_reducible assumption) | (with_reducible refine bstep ?_ (by assumption) ?_) | (simp only [World.size_alloc, World.size_setCell, World.size_drew, World.heap_drewN, size_grow]; done) | (simp only [World.size_alloc, World.size_setCell, World.size_drew, World.heap_drewN, size_grow]; omega) | omega))
def PcFit (left r : Int) (l : List Pce) : Prop := r = -1 ∨ (0 ≤ r ∧ r ≤ left ∧ l.length ≤ left ∧ ∀ p ∈ l, p.text.size ≤ left)
theorem szPieceS_c (v : Value) (l : List Pce) (left : Int) (w : World) (hl : Sl w v 2 (l.map pceCells)) (hm : ∀ p ∈ l, p.text.size ≤ maxLen) (h0 : 0 ≤ left) (h1 : left ≤ 1048576) : Calls Tryz.prog 85 #[v, .int .i64 left] w fun e w' => ∃ r : Int, e = .returned (.int .i64 r) ∧ PcFit left r l ∧ Below w.heap.size w w' := by
  obtain ⟨a, cap, rfl, h2, h3, h4, h5⟩ := hl
  simp only [List.length_map] at h2 ⊢
  unfold maxLen at h3
  have H5 := Lib.hid h5; clear h5
  have HM := Lib.hid hm; clear hm
  by_cases h : left < l.length
  · go_enter Tryz.func85, Tryz.ntmps85
    go_wp2
    refine bodyPost_ret (v := .int .i64 (-1)) (by simp [results, Tryz.results85]) rfl ⟨_, rfl, .inl rfl, ?_⟩
    (repeat' (first | (with_reducible exact Below.refl _ _) | (with_reducible refine Below.alloc ?_ ?_ _) | (with_reducible refine belowGrow ?_ ?_ _ _) | (with_reducible refine Below.setCell ?_ ?_ _) | (with_reducible refine Below.drew ?_) | (with_reducible refine bdrewN ?_ _) | (with_reducible assumption) | (with_reducible refine bstep ?_ (by assumption) ?_) | (simp only [World.size_alloc, World.size_setCell, World.size_drew, World.heap_drewN, size_grow]; done) | (simp only [World.size_alloc, World.size_setCell, World.size_drew, World.heap_drewN, size_grow]; omega) | omega))
  · have hn : (l.length : Int) ≤ left := by omega
    have hl0 : (0 : Int) ≤ left - l.length := by omega
    go_enter Tryz.func85, Tryz.ntmps85
    go_wp2
    go_loopw [1, 5] (fun c i wr => ∃ (k : Nat) (r : Int), k ≤ l.length ∧ i = .int .i64 k ∧ c = .int .i64 r ∧ 0 ≤ r ∧ r ≤ left ∧ Hid (∀ (j : Nat) (p : Pce), j < k → l[j]? = some p → p.text.size ≤ left) ∧ Below w.heap.size w wr) (fun _ i _ => l.length - (intOf i).toNat)
    case atStart => exact ⟨0, left - l.length, Nat.zero_le _, rfl, rfl, by omega, by omega, fun j p hj => by omega, Below.refl _ _⟩
    case round =>
      obtain ⟨k, r, hk, rfl, rfl, hr0, hr1, hno, hB⟩ := hrel
      by_cases hlt : k < l.length
      · obtain ⟨x, hx⟩ : ∃ x, l[k]? = some x := ⟨_, List.getElem?_eq_getElem hlt⟩
        obtain ⟨b, off, rfl, hbw, hr⟩ := H5.out k (pceCells x) (by simp [hx])
        have hr := Below.rangeAt hB hbw hr
        have hxm : x.text.size ≤ maxLen := HM.out x (List.mem_of_getElem? hx)
        have HX := Lib.hid hx; clear hx
        obtain ⟨x_off, x_text⟩ := x
        have c0 := hr 0 _ rfl
        have c1 := hr 1 _ rfl
        simp only [Nat.add_zero] at c0
        clear hr
        have hk0 : (0 : Int) ≤ (k : Int) := Int.natCast_nonneg _
        have hk1 : (k : Int) < (l.length : Int) := by omega
        have hBs := hB.size
        by_cases hq : r < x_text.size
        · go_wp2_with (go_at_call 127; with_reducible refine (szPiece_c _ _ _ _ hr0 (by omega) hxm).mono ?_; rintro e w2 ⟨rfl, hb2⟩; rw [if_pos hq])
          refine bodyPost_ret (v := .int .i64 (-1)) (by simp [results, Tryz.results85]) rfl ⟨_, rfl, .inl rfl, bstep hB hb2 hBs⟩
        · have hr2 : (0 : Int) ≤ r - x_text.size := by omega
          go_wp2_with (go_at_call 127; with_reducible refine (szPiece_c _ _ _ _ hr0 (by omega) hxm).mono ?_; rintro e w2 ⟨rfl, hb2⟩; rw [if_neg (by omega)])
          go_roundw
          case rel => exact ⟨k + 1, r - x_text.size, by omega, by go_num, rfl, hr2, by omega, fun j p hj hp => by
            rcases Nat.lt_succ_iff_lt_or_eq.1 hj with h | rfl
            · exact hno j p h hp
            · have := HX.out.symm.trans hp; simp only [Option.some.injEq] at this; subst this; simp only; omega, bstep hB hb2 hBs⟩
          case measure => simp [intOf]; omega
      · go_wp2
        refine bodyPost_ret (v := .int .i64 r) (by simp [results, Tryz.results85]) rfl ⟨_, rfl, .inr ⟨hr0, hr1, hn, fun p hp => by
          obtain ⟨j, hj, rfl⟩ := List.mem_iff_getElem.1 hp
          exact hno j _ (by omega) (List.getElem?_eq_getElem hj)⟩, hB⟩
theorem szReceiver_c (x_next : Int) (x_data : ByteArray) (x_held : List Pce) (x_held_v : Value) (x_fin : Int) (x_done : Bool) (left : Int) (w : World) (hl : Sl w x_held_v 2 (x_held.map pceCells)) (hm : ∀ p ∈ x_held, p.text.size ≤ maxLen) (h0 : 0 ≤ left) (h1 : left ≤ 1048576) (hd : x_data.size ≤ maxLen) : Calls Tryz.prog 32 #[.agg #[.int .i64 x_next, .string x_data, x_held_v, .int .i64 x_fin, .bool x_done], .int .i64 left] w fun e w' => ∃ r : Int, e = .returned (.int .i64 r) ∧ (r = -1 ∨ (0 ≤ r ∧ r ≤ left ∧ x_data.size ≤ left ∧ PcFit left r x_held)) ∧ Below w.heap.size w w' := by
  unfold maxLen at hd
  have HL := Lib.hid hl; have HM := Lib.hid hm; clear hl hm
  by_cases h : left < x_data.size
  · go_enter Tryz.func32, Tryz.ntmps32
    go_wp2
    refine bodyPost_ret (v := .int .i64 (-1)) (by simp [results, Tryz.results32]) rfl ⟨_, rfl, .inl rfl, ?_⟩
    (repeat' (first | (with_reducible exact Below.refl _ _) | (with_reducible refine Below.alloc ?_ ?_ _) | (with_reducible refine belowGrow ?_ ?_ _ _) | (with_reducible refine Below.setCell ?_ ?_ _) | (with_reducible refine Below.drew ?_) | (with_reducible refine bdrewN ?_ _) | (with_reducible assumption) | (with_reducible refine bstep ?_ (by assumption) ?_) | (simp only [World.size_alloc, World.size_setCell, World.size_drew, World.heap_drewN, size_grow]; done) | (simp only [World.size_alloc, World.size_setCell, World.size_drew, World.heap_drewN, size_grow]; omega) | omega))
  · have hl0 : (0 : Int) ≤ left - x_data.size := by omega
    go_enter Tryz.func32, Tryz.ntmps32
    go_wp2_with fail
    refine (szPieceS_c _ x_held _ _ (HL.out.kept (B := w.heap.size) (by (repeat' (first | (with_reducible exact Below.refl _ _) | (with_reducible refine Below.alloc ?_ ?_ _) | (with_reducible refine belowGrow ?_ ?_ _ _) | (with_reducible refine Below.setCell ?_ ?_ _) | (with_reducible refine Below.drew ?_) | (with_reducible refine bdrewN ?_ _) | (with_reducible assumption) | (with_reducible refine bstep ?_ (by assumption) ?_) | (simp only [World.size_alloc, World.size_setCell, World.size_drew, World.heap_drewN, size_grow]; done) | (simp only [World.size_alloc, World.size_setCell, World.size_drew, World.heap_drewN, size_grow]; omega) | omega))) (Nat.le_refl _)) HM.out hl0 (by omega)).mono ?_
    rintro e w1 ⟨r, rfl, hr, hb1⟩
    obtain ⟨d1, os1, rfl⟩ := below_grow hb1; clear hb1
    rcases hr with rfl | ⟨hr0, hr1, hr2, hr3⟩
    · go_wp2
      refine bodyPost_ret (v := .int .i64 (-1)) (by simp [results, Tryz.results32]) rfl ⟨_, rfl, .inl rfl, ?_⟩
      (repeat' (first | (with_reducible exact Below.refl _ _) | (with_reducible refine Below.alloc ?_ ?_ _) | (with_reducible refine belowGrow ?_ ?_ _ _) | (with_reducible refine Below.setCell ?_ ?_ _) | (with_reducible refine Below.drew ?_) | (with_reducible refine bdrewN ?_ _) | (with_reducible assumption) | (with_reducible refine bstep ?_ (by assumption) ?_) | (simp only [World.size_alloc, World.size_setCell, World.size_drew, World.heap_drewN, size_grow]; done) | (simp only [World.size_alloc, World.size_setCell, World.size_drew, World.heap_drewN, size_grow]; omega) | omega))
    · have HR := Lib.hid hr3; clear hr3
      go_wp2
      refine bodyPost_ret (v := .int .i64 r) (by simp [results, Tryz.results32]) rfl ⟨_, rfl, .inr ⟨hr0, by omega, by omega, .inr ⟨hr0, by omega, by omega, fun p hp => by have := HR.out p hp; omega⟩⟩, ?_⟩
      (repeat' (first | (with_reducible exact Below.refl _ _) | (with_reducible refine Below.alloc ?_ ?_ _) | (with_reducible refine belowGrow ?_ ?_ _ _) | (with_reducible refine Below.setCell ?_ ?_ _) | (with_reducible refine Below.drew ?_) | (with_reducible refine bdrewN ?_ _) | (with_reducible assumption) | (with_reducible refine bstep ?_ (by assumption) ?_) | (simp only [World.size_alloc, World.size_setCell, World.size_drew, World.heap_drewN, size_grow]; done) | (simp only [World.size_alloc, World.size_setCell, World.size_drew, World.heap_drewN, size_grow]; omega) | omega))
def ConFit (n : Int) (c : Con) : Prop := c.s.data.size ≤ n ∧ c.r.data.size ≤ n ∧ c.r.held.length ≤ n ∧ ∀ p ∈ c.r.held, p.text.size ≤ n
theorem szConn_c (x_t_ip : Int) (x_t_port : Int) (x_t_my : Int) (x_state : Int) (x_s_una : Int) (x_s_data : ByteArray) (x_s_sent : Int) (x_s_fin : Bool) (x_s_finSent : Bool) (x_s_done : Bool) (x_r_next : Int) (x_r_data : ByteArray) (x_r_held : List Pce) (x_r_held_v : Value) (x_r_fin : Int) (x_r_done : Bool) (x_window : Int) (x_most : Int) (x_o_mss : Int) (x_o_scale : Int) (x_o_sack : Bool) (x_o_stamp : Bool) (x_o_val : Int) (x_o_echo : Int) (x_timer : Int) (x_tries : Int) (left : Int) (w : World) (hl : Sl w x_r_held_v 2 (x_r_held.map pceCells)) (hm : ∀ p ∈ x_r_held, p.text.size ≤ maxLen) (h0 : 0 ≤ left) (h1 : left ≤ 1048576) (hd : x_r_data.size ≤ maxLen) (hsd : x_s_data.size ≤ maxLen) : Calls Tryz.prog 6 #[.agg #[.int .i64 x_t_ip, .int .i64 x_t_port, .int .i64 x_t_my, .int .i64 x_state, .int .i64 x_s_una, .string x_s_data, .int .i64 x_s_sent, .bool x_s_fin, .bool x_s_finSent, .bool x_s_done, .int .i64 x_r_next, .string x_r_data, x_r_held_v, .int .i64 x_r_fin, .bool x_r_done, .int .i64 x_window, .int .i64 x_most, .int .i64 x_o_mss, .int .i64 x_o_scale, .bool x_o_sack, .bool x_o_stamp, .int .i64 x_o_val, .int .i64 x_o_echo, .int .i64 x_timer, .int .i64 x_tries], .int .i64 left] w fun e w' => ∃ r : Int, e = .returned (.int .i64 r) ∧ (r = -1 ∨ (0 ≤ r ∧ r ≤ left ∧ ConFit left ⟨⟨x_t_ip, x_t_port, x_t_my⟩, x_state, ⟨x_s_una, x_s_data, x_s_sent, x_s_fin, x_s_finSent, x_s_done⟩, ⟨x_r_next, x_r_data, x_r_held, x_r_fin, x_r_done⟩, x_window, x_most, ⟨x_o_mss, x_o_scale, x_o_sack, x_o_stamp, x_o_val, x_o_echo⟩, x_timer, x_tries⟩)) ∧ Below w.heap.size w w' := by
  have HL := Lib.hid hl; have HM := Lib.hid hm; clear hl hm
  by_cases h : left < x_s_data.size
  · go_enter Tryz.func6, Tryz.ntmps6
    go_wp2_with (go_at_call 31; with_reducible refine (szSender_c _ _ _ _ _ _ _ _ h0 h1 hsd).mono ?_; rintro e w1 ⟨rfl, hb1⟩; obtain ⟨d1, os1, rfl⟩ := below_grow hb1; clear hb1; rw [if_pos h])
    refine bodyPost_ret (v := .int .i64 (-1)) (by simp [results, Tryz.results6]) rfl ⟨_, rfl, .inl rfl, ?_⟩
    (repeat' (first | (with_reducible exact Below.refl _ _) | (with_reducible refine Below.alloc ?_ ?_ _) | (with_reducible refine belowGrow ?_ ?_ _ _) | (with_reducible refine Below.setCell ?_ ?_ _) | (with_reducible refine Below.drew ?_) | (with_reducible refine bdrewN ?_ _) | (with_reducible assumption) | (with_reducible refine bstep ?_ (by assumption) ?_) | (simp only [World.size_alloc, World.size_setCell, World.size_drew, World.heap_drewN, size_grow]; done) | (simp only [World.size_alloc, World.size_setCell, World.size_drew, World.heap_drewN, size_grow]; omega) | omega))
  · have hl0 : (0 : Int) ≤ left - x_s_data.size := by omega
    go_enter Tryz.func6, Tryz.ntmps6
    go_wp2_with fail
    refine (szSender_c _ _ _ _ _ _ _ _ h0 h1 hsd).mono ?_
    rintro e w1 ⟨rfl, hb1⟩; obtain ⟨d1, os1, rfl⟩ := below_grow hb1; clear hb1
    rw [if_neg (by omega)]
    go_wp2_with fail
    refine (szReceiver_c _ _ x_r_held _ _ _ _ _ (HL.out.kept (B := w.heap.size) (by (repeat' (first | (with_reducible exact Below.refl _ _) | (with_reducible refine Below.alloc ?_ ?_ _) | (with_reducible refine belowGrow ?_ ?_ _ _) | (with_reducible refine Below.setCell ?_ ?_ _) | (with_reducible refine Below.drew ?_) | (with_reducible refine bdrewN ?_ _) | (with_reducible assumption) | (with_reducible refine bstep ?_ (by assumption) ?_) | (simp only [World.size_alloc, World.size_setCell, World.size_drew, World.heap_drewN, size_grow]; done) | (simp only [World.size_alloc, World.size_setCell, World.size_drew, World.heap_drewN, size_grow]; omega) | omega))) (Nat.le_refl _)) HM.out hl0 (by omega) hd).mono ?_
    rintro e w2 ⟨r, rfl, hr, hb2⟩
    obtain ⟨d2, os2, rfl⟩ := below_grow hb2; clear hb2
    rcases hr with rfl | ⟨hr0, hr1, hr2, hr3⟩
    · go_wp2
      refine bodyPost_ret (v := .int .i64 (-1)) (by simp [results, Tryz.results6]) rfl ⟨_, rfl, .inl rfl, ?_⟩
      (repeat' (first | (with_reducible exact Below.refl _ _) | (with_reducible refine Below.alloc ?_ ?_ _) | (with_reducible refine belowGrow ?_ ?_ _ _) | (with_reducible refine Below.setCell ?_ ?_ _) | (with_reducible refine Below.drew ?_) | (with_reducible refine bdrewN ?_ _) | (with_reducible assumption) | (with_reducible refine bstep ?_ (by assumption) ?_) | (simp only [World.size_alloc, World.size_setCell, World.size_drew, World.heap_drewN, size_grow]; done) | (simp only [World.size_alloc, World.size_setCell, World.size_drew, World.heap_drewN, size_grow]; omega) | omega))
    · have HR := Lib.hid hr3; clear hr3
      go_wp2
      refine bodyPost_ret (v := .int .i64 r) (by simp [results, Tryz.results6]) rfl ⟨_, rfl, .inr ⟨hr0, by omega, ?_⟩, ?_⟩
      · rcases HR.out with h | ⟨_, _, h2, h3⟩
        · omega
        · exact ⟨by simp only; omega, by simp only; omega, by simp only; omega, fun p hp => by have := h3 p hp; omega⟩
      · (repeat' (first | (with_reducible exact Below.refl _ _) | (with_reducible refine Below.alloc ?_ ?_ _) | (with_reducible refine belowGrow ?_ ?_ _ _) | (with_reducible refine Below.setCell ?_ ?_ _) | (with_reducible refine Below.drew ?_) | (with_reducible refine bdrewN ?_ _) | (with_reducible assumption) | (with_reducible refine bstep ?_ (by assumption) ?_) | (simp only [World.size_alloc, World.size_setCell, World.size_drew, World.heap_drewN, size_grow]; done) | (simp only [World.size_alloc, World.size_setCell, World.size_drew, World.heap_drewN, size_grow]; omega) | omega))
set_option maxHeartbeats 1000000 in
theorem toReceiver_c (x_next : Int) (x_data : ByteArray) (x_held : List Pce) (x_held_v : Value) (x_fin : Int) (x_done : Bool) (w : World) (hl : Sl w x_held_v 2 (x_held.map pceCells)) (hn : x_held.length ≤ 1048576) : Calls Tryz.prog 40 #[.agg #[.int .i64 x_next, .string x_data, x_held_v, .int .i64 x_fin, .bool x_done]] w fun e w' => ∃ v' : Value, e = .returned (.agg #[.int .i64 x_next, .string x_data, v', .int .i64 x_fin, .bool x_done]) ∧ Own w' w.heap.size v' 2 (x_held.map pceCells) ∧ Below w.heap.size w w' := by
  have HL := Lib.hid hl; clear hl
  go_enter Tryz.func40, Tryz.ntmps40
  go_wp2_with fail
  refine (toPieceS_c _ x_held _ (HL.out.kept (B := w.heap.size) (by (repeat' (first | (with_reducible exact Below.refl _ _) | (with_reducible refine Below.alloc ?_ ?_ _) | (with_reducible refine belowGrow ?_ ?_ _ _) | (with_reducible refine Below.setCell ?_ ?_ _) | (with_reducible refine Below.drew ?_) | (with_reducible refine bdrewN ?_ _) | (with_reducible assumption) | (with_reducible refine bstep ?_ (by assumption) ?_) | (simp only [World.size_alloc, World.size_setCell, World.size_drew, World.heap_drewN, size_grow]; done) | (simp only [World.size_alloc, World.size_setCell, World.size_drew, World.heap_drewN, size_grow]; omega) | omega))) (Nat.le_refl _)) hn).mono ?_
  rintro e w1 ⟨v1, rfl, hO1, hb1⟩
  obtain ⟨a1, cap1, rfl⟩ := hO1.form
  obtain ⟨d1, os1, rfl⟩ := below_grow hb1; clear hb1
  go_wp2
  refine bodyPost_ret (v := .agg #[.int .i64 x_next, .string x_data, .slice a1 _ cap1, .int .i64 x_fin, .bool x_done]) (by simp [results, Tryz.results40, go_sem, *]) rfl ⟨_, rfl, (hO1.mid (by (repeat' (first | (with_reducible exact Mid.refl _ _ _) | (with_reducible refine Mid.swap ?_) | (with_reducible refine Mid.grow ?_ ?_ _ _) | (with_reducible refine Mid.alloc ?_ ?_ _) | (with_reducible refine Mid.setCell ?_ ?_ _) | (with_reducible refine Mid.drew ?_) | (with_reducible refine Mid.drewN ?_ _) | (with_reducible refine Mid.below ?_ (by assumption) ?_) | (simp only [World.size_alloc, World.size_setCell, World.size_drew, World.heap_drewN, size_grow]; done) | (simp only [World.size_alloc, World.size_setCell, World.size_drew, World.heap_drewN, size_grow]; omega) | omega)))).lower (by simp only [World.size_alloc, World.size_setCell, World.size_drew, World.heap_drewN, size_grow]; omega), ?_⟩
  (repeat' (first | (with_reducible exact Below.refl _ _) | (with_reducible refine Below.alloc ?_ ?_ _) | (with_reducible refine belowGrow ?_ ?_ _ _) | (with_reducible refine Below.setCell ?_ ?_ _) | (with_reducible refine Below.drew ?_) | (with_reducible refine bdrewN ?_ _) | (with_reducible assumption) | (with_reducible refine bstep ?_ (by assumption) ?_) | (simp only [World.size_alloc, World.size_setCell, World.size_drew, World.heap_drewN, size_grow]; done) | (simp only [World.size_alloc, World.size_setCell, World.size_drew, World.heap_drewN, size_grow]; omega) | omega))
set_option maxHeartbeats 4000000 in
theorem toConn_c (x_t_ip : Int) (x_t_port : Int) (x_t_my : Int) (x_state : Int) (x_s_una : Int) (x_s_data : ByteArray) (x_s_sent : Int) (x_s_fin : Bool) (x_s_finSent : Bool) (x_s_done : Bool) (x_r_next : Int) (x_r_data : ByteArray) (x_r_held : List Pce) (x_r_held_v : Value) (x_r_fin : Int) (x_r_done : Bool) (x_window : Int) (x_most : Int) (x_o_mss : Int) (x_o_scale : Int) (x_o_sack : Bool) (x_o_stamp : Bool) (x_o_val : Int) (x_o_echo : Int) (x_timer : Int) (x_tries : Int) (w : World) (hl : Sl w x_r_held_v 2 (x_r_held.map pceCells)) (hn : x_r_held.length ≤ 1048576) : Calls Tryz.prog 9 #[.agg #[.int .i64 x_t_ip, .int .i64 x_t_port, .int .i64 x_t_my, .int .i64 x_state, .int .i64 x_s_una, .string x_s_data, .int .i64 x_s_sent, .bool x_s_fin, .bool x_s_finSent, .bool x_s_done, .int .i64 x_r_next, .string x_r_data, x_r_held_v, .int .i64 x_r_fin, .bool x_r_done, .int .i64 x_window, .int .i64 x_most, .int .i64 x_o_mss, .int .i64 x_o_scale, .bool x_o_sack, .bool x_o_stamp, .int .i64 x_o_val, .int .i64 x_o_echo, .int .i64 x_timer, .int .i64 x_tries]] w fun e w' => ∃ v' : Value, e = .returned (.agg #[.int .i64 x_t_ip, .int .i64 x_t_port, .int .i64 x_t_my, .int .i64 x_state, .int .i64 x_s_una, .string x_s_data, .int .i64 x_s_sent, .bool x_s_fin, .bool x_s_finSent, .bool x_s_done, .int .i64 x_r_next, .string x_r_data, v', .int .i64 x_r_fin, .bool x_r_done, .int .i64 x_window, .int .i64 x_most, .int .i64 x_o_mss, .int .i64 x_o_scale, .bool x_o_sack, .bool x_o_stamp, .int .i64 x_o_val, .int .i64 x_o_echo, .int .i64 x_timer, .int .i64 x_tries]) ∧ Own w' w.heap.size v' 2 (x_r_held.map pceCells) ∧ Below w.heap.size w w' := by
  have HL := Lib.hid hl; clear hl
  go_enter Tryz.func9, Tryz.ntmps9
  go_wp2_with fail
  refine (toTuple_c _ _ _ _).mono ?_
  rintro e w1 ⟨rfl, hb1⟩; obtain ⟨d1, os1, rfl⟩ := below_grow hb1; clear hb1
  go_wp2_with fail
  refine (toSender_c _ _ _ _ _ _ _).mono ?_
  rintro e w2 ⟨rfl, hb2⟩; obtain ⟨d2, os2, rfl⟩ := below_grow hb2; clear hb2
  go_wp2_with fail
  refine (toReceiver_c _ _ x_r_held _ _ _ _ (HL.out.kept (B := w.heap.size) (by (repeat' (first | (with_reducible exact Below.refl _ _) | (with_reducible refine Below.alloc ?_ ?_ _) | (with_reducible refine belowGrow ?_ ?_ _ _) | (with_reducible refine Below.setCell ?_ ?_ _) | (with_reducible refine Below.drew ?_) | (with_reducible refine bdrewN ?_ _) | (with_reducible assumption) | (with_reducible refine bstep ?_ (by assumption) ?_) | (simp only [World.size_alloc, World.size_setCell, World.size_drew, World.heap_drewN, size_grow]; done) | (simp only [World.size_alloc, World.size_setCell, World.size_drew, World.heap_drewN, size_grow]; omega) | omega))) (Nat.le_refl _)) hn).mono ?_
  rintro e w3 ⟨v3, rfl, hO3, hb3⟩
  obtain ⟨a3, cap3, rfl⟩ := hO3.form
  obtain ⟨d3, os3, rfl⟩ := below_grow hb3; clear hb3
  go_wp2_with fail
  refine (toOptions_c _ _ _ _ _ _ _).mono ?_
  rintro e w4 ⟨rfl, hb4⟩; obtain ⟨d4, os4, rfl⟩ := below_grow hb4; clear hb4
  go_wp2
  refine bodyPost_ret (v := .agg #[.int .i64 x_t_ip, .int .i64 x_t_port, .int .i64 x_t_my, .int .i64 x_state, .int .i64 x_s_una, .string x_s_data, .int .i64 x_s_sent, .bool x_s_fin, .bool x_s_finSent, .bool x_s_done, .int .i64 x_r_next, .string x_r_data, .slice a3 _ cap3, .int .i64 x_r_fin, .bool x_r_done, .int .i64 x_window, .int .i64 x_most, .int .i64 x_o_mss, .int .i64 x_o_scale, .bool x_o_sack, .bool x_o_stamp, .int .i64 x_o_val, .int .i64 x_o_echo, .int .i64 x_timer, .int .i64 x_tries]) ((res_implConn Tryz.results9 _ _ _ rfl (by simp [go_sem])).trans (by simp [go_sem])) rfl ⟨_, rfl, (hO3.mid (by (repeat' (first | (with_reducible exact Mid.refl _ _ _) | (with_reducible refine Mid.swap ?_) | (with_reducible refine Mid.grow ?_ ?_ _ _) | (with_reducible refine Mid.alloc ?_ ?_ _) | (with_reducible refine Mid.setCell ?_ ?_ _) | (with_reducible refine Mid.drew ?_) | (with_reducible refine Mid.drewN ?_ _) | (with_reducible refine Mid.below ?_ (by assumption) ?_) | (simp only [World.size_alloc, World.size_setCell, World.size_drew, World.heap_drewN, size_grow]; done) | (simp only [World.size_alloc, World.size_setCell, World.size_drew, World.heap_drewN, size_grow]; omega) | omega)))).lower (by simp only [World.size_alloc, World.size_setCell, World.size_drew, World.heap_drewN, size_grow]; omega), ?_⟩
  (repeat' (first | (with_reducible exact Below.refl _ _) | (with_reducible refine Below.alloc ?_ ?_ _) | (with_reducible refine belowGrow ?_ ?_ _ _) | (with_reducible refine Below.setCell ?_ ?_ _) | (with_reducible refine Below.drew ?_) | (with_reducible refine bdrewN ?_ _) | (with_reducible assumption) | (with_reducible refine bstep ?_ (by assumption) ?_) | (simp only [World.size_alloc, World.size_setCell, World.size_drew, World.heap_drewN, size_grow]; done) | (simp only [World.size_alloc, World.size_setCell, World.size_drew, World.heap_drewN, size_grow]; omega) | omega))
theorem eqReceiver_c (x_next : Int) (x_data : ByteArray) (x_held : List Pce) (x_held_v : Value) (x_fin : Int) (x_done : Bool) (u : Value) (w : World) (hl : Sl w x_held_v 2 (x_held.map pceCells)) (hu : Sl w u 2 (x_held.map pceCells)) : Calls Tryz.prog 50 #[.agg #[.int .i64 x_next, .string x_data, x_held_v, .int .i64 x_fin, .bool x_done], .agg #[.int .i64 x_next, .string x_data, u, .int .i64 x_fin, .bool x_done]] w fun e w' => e = .returned (.bool true) ∧ Below w.heap.size w w' := by
  have HL := Lib.hid hl; have HU := Lib.hid hu; clear hl hu
  go_enter Tryz.func50, Tryz.ntmps50
  go_wp2_with fail
  refine (eqPieceS_c _ _ x_held _ (HL.out.kept (B := w.heap.size) (by (repeat' (first | (with_reducible exact Below.refl _ _) | (with_reducible refine Below.alloc ?_ ?_ _) | (with_reducible refine belowGrow ?_ ?_ _ _) | (with_reducible refine Below.setCell ?_ ?_ _) | (with_reducible refine Below.drew ?_) | (with_reducible refine bdrewN ?_ _) | (with_reducible assumption) | (with_reducible refine bstep ?_ (by assumption) ?_) | (simp only [World.size_alloc, World.size_setCell, World.size_drew, World.heap_drewN, size_grow]; done) | (simp only [World.size_alloc, World.size_setCell, World.size_drew, World.heap_drewN, size_grow]; omega) | omega))) (Nat.le_refl _)) (HU.out.kept (B := w.heap.size) (by (repeat' (first | (with_reducible exact Below.refl _ _) | (with_reducible refine Below.alloc ?_ ?_ _) | (with_reducible refine belowGrow ?_ ?_ _ _) | (with_reducible refine Below.setCell ?_ ?_ _) | (with_reducible refine Below.drew ?_) | (with_reducible refine bdrewN ?_ _) | (with_reducible assumption) | (with_reducible refine bstep ?_ (by assumption) ?_) | (simp only [World.size_alloc, World.size_setCell, World.size_drew, World.heap_drewN, size_grow]; done) | (simp only [World.size_alloc, World.size_setCell, World.size_drew, World.heap_drewN, size_grow]; omega) | omega))) (Nat.le_refl _))).mono ?_
  rintro e w1 ⟨rfl, hb1⟩; obtain ⟨d1, os1, rfl⟩ := below_grow hb1; clear hb1
  go_wp2
  refine bodyPost_ret (v := .bool true) (by simp [results, Tryz.results50]) rfl ⟨rfl, ?_⟩
  (repeat' (first | (with_reducible exact Below.refl _ _) | (with_reducible refine Below.alloc ?_ ?_ _) | (with_reducible refine belowGrow ?_ ?_ _ _) | (with_reducible refine Below.setCell ?_ ?_ _) | (with_reducible refine Below.drew ?_) | (with_reducible refine bdrewN ?_ _) | (with_reducible assumption) | (with_reducible refine bstep ?_ (by assumption) ?_) | (simp only [World.size_alloc, World.size_setCell, World.size_drew, World.heap_drewN, size_grow]; done) | (simp only [World.size_alloc, World.size_setCell, World.size_drew, World.heap_drewN, size_grow]; omega) | omega))
set_option maxHeartbeats 2000000 in
theorem eqConn_c (x_t_ip : Int) (x_t_port : Int) (x_t_my : Int) (x_state : Int) (x_s_una : Int) (x_s_data : ByteArray) (x_s_sent : Int) (x_s_fin : Bool) (x_s_finSent : Bool) (x_s_done : Bool) (x_r_next : Int) (x_r_data : ByteArray) (x_r_held : List Pce) (x_r_held_v : Value) (x_r_fin : Int) (x_r_done : Bool) (x_window : Int) (x_most : Int) (x_o_mss : Int) (x_o_scale : Int) (x_o_sack : Bool) (x_o_stamp : Bool) (x_o_val : Int) (x_o_echo : Int) (x_timer : Int) (x_tries : Int) (u : Value) (w : World) (hl : Sl w x_r_held_v 2 (x_r_held.map pceCells)) (hu : Sl w u 2 (x_r_held.map pceCells)) : Calls Tryz.prog 12 #[.agg #[.int .i64 x_t_ip, .int .i64 x_t_port, .int .i64 x_t_my, .int .i64 x_state, .int .i64 x_s_una, .string x_s_data, .int .i64 x_s_sent, .bool x_s_fin, .bool x_s_finSent, .bool x_s_done, .int .i64 x_r_next, .string x_r_data, x_r_held_v, .int .i64 x_r_fin, .bool x_r_done, .int .i64 x_window, .int .i64 x_most, .int .i64 x_o_mss, .int .i64 x_o_scale, .bool x_o_sack, .bool x_o_stamp, .int .i64 x_o_val, .int .i64 x_o_echo, .int .i64 x_timer, .int .i64 x_tries], .agg #[.int .i64 x_t_ip, .int .i64 x_t_port, .int .i64 x_t_my, .int .i64 x_state, .int .i64 x_s_una, .string x_s_data, .int .i64 x_s_sent, .bool x_s_fin, .bool x_s_finSent, .bool x_s_done, .int .i64 x_r_next, .string x_r_data, u, .int .i64 x_r_fin, .bool x_r_done, .int .i64 x_window, .int .i64 x_most, .int .i64 x_o_mss, .int .i64 x_o_scale, .bool x_o_sack, .bool x_o_stamp, .int .i64 x_o_val, .int .i64 x_o_echo, .int .i64 x_timer, .int .i64 x_tries]] w fun e w' => e = .returned (.bool true) ∧ Below w.heap.size w w' := by
  have HL := Lib.hid hl; have HU := Lib.hid hu; clear hl hu
  go_enter Tryz.func12, Tryz.ntmps12
  go_wp2_with (first | (go_at_call 48; with_reducible refine (eqTuple_c _ _ _ _).mono ?_; rintro e w1 ⟨rfl, hb1⟩; obtain ⟨d1, os1, rfl⟩ := below_grow hb1; clear hb1) | (go_at_call 49; with_reducible refine (eqSender_c _ _ _ _ _ _ _).mono ?_; rintro e w2 ⟨rfl, hb2⟩; obtain ⟨d2, os2, rfl⟩ := below_grow hb2; clear hb2) | (go_at_call 51; with_reducible refine (eqOptions_c _ _ _ _ _ _ _).mono ?_; rintro e w4 ⟨rfl, hb4⟩; obtain ⟨d4, os4, rfl⟩ := below_grow hb4; clear hb4) | (go_at_call 50; refine (eqReceiver_c _ _ x_r_held _ _ _ _ _ (HL.out.kept (B := w.heap.size) (by (repeat' (first | (with_reducible exact Below.refl _ _) | (with_reducible refine Below.alloc ?_ ?_ _) | (with_reducible refine belowGrow ?_ ?_ _ _) | (with_reducible refine Below.setCell ?_ ?_ _) | (with_reducible refine Below.drew ?_) | (with_reducible refine bdrewN ?_ _) | (with_reducible assumption) | (with_reducible refine bstep ?_ (by assumption) ?_) | (simp only [World.size_alloc, World.size_setCell, World.size_drew, World.heap_drewN, size_grow]; done) | (simp only [World.size_alloc, World.size_setCell, World.size_drew, World.heap_drewN, size_grow]; omega) | omega))) (Nat.le_refl _)) (HU.out.kept (B := w.heap.size) (by (repeat' (first | (with_reducible exact Below.refl _ _) | (with_reducible refine Below.alloc ?_ ?_ _) | (with_reducible refine belowGrow ?_ ?_ _ _) | (with_reducible refine Below.setCell ?_ ?_ _) | (with_reducible refine Below.drew ?_) | (with_reducible refine bdrewN ?_ _) | (with_reducible assumption) | (with_reducible refine bstep ?_ (by assumption) ?_) | (simp only [World.size_alloc, World.size_setCell, World.size_drew, World.heap_drewN, size_grow]; done) | (simp only [World.size_alloc, World.size_setCell, World.size_drew, World.heap_drewN, size_grow]; omega) | omega))) (Nat.le_refl _))).mono ?_; rintro e w3 ⟨rfl, hb3⟩; obtain ⟨d3, os3, rfl⟩ := below_grow hb3; clear hb3))
  refine bodyPost_ret (v := .bool true) (by simp [results, Tryz.results12]) rfl ⟨rfl, ?_⟩
  (repeat' (first | (with_reducible exact Below.refl _ _) | (with_reducible refine Below.alloc ?_ ?_ _) | (with_reducible refine belowGrow ?_ ?_ _ _) | (with_reducible refine Below.setCell ?_ ?_ _) | (with_reducible refine Below.drew ?_) | (with_reducible refine bdrewN ?_ _) | (with_reducible assumption) | (with_reducible refine bstep ?_ (by assumption) ?_) | (simp only [World.size_alloc, World.size_setCell, World.size_drew, World.heap_drewN, size_grow]; done) | (simp only [World.size_alloc, World.size_setCell, World.size_drew, World.heap_drewN, size_grow]; omega) | omega))
end Go.Proofs.YtebgmdiejgcoiaaGreat
/- Plain definitions: marks (no program in sight). -/
namespace Go.Proofs.YtebgmdiejgcoiaaGreat
open Go.RowKit
theorem bstr_one (z : Int) : (bstr [z]).size = 1 := rfl
def markLoop (k : Int) (out : ByteArray) : ByteArray :=
  if h : 0 < k then markLoop (k.tdiv 10) (bstr [IntKind.u8.wrap (48 + k.tmod 10)] ++ out) else out
termination_by k.toNat
decreasing_by
  rw [Int.tdiv_eq_ediv_of_nonneg (by omega)]; omega
def markText (k : Int) : ByteArray := if k ≤ 0 then ⟨#[109, 48]⟩ else ⟨#[109]⟩ ++ markLoop k ⟨#[]⟩
theorem mark_dec {z : Int} (hz : 0 < z) : (z.tdiv 10).toNat < z.toNat := by rw [Int.tdiv_eq_ediv_of_nonneg (by omega)]; omega
theorem markLoop_step {k z : Int} {o out : ByteArray} (hz : 0 < z) (h : markLoop k o = markLoop z out) : markLoop k o = markLoop (z.tdiv 10) (bstr [IntKind.u8.wrap (48 + z.tmod 10)] ++ out) := by
  rw [h, markLoop, dif_pos hz]
theorem markLoop_end {k z : Int} {o out : ByteArray} (hz : ¬ 0 < z) (h : markLoop k o = markLoop z out) : markLoop k o = out := by
  rw [h, markLoop, dif_neg hz]
theorem mark_room {k z x : Int} {out : ByteArray} (hz : 0 < z) (h : out.size + z.toNat ≤ k.toNat) : (bstr [x] ++ out).size + (z.tdiv 10).toNat ≤ k.toNat := by
  have := mark_dec hz
  rw [ByteArray.size_append, bstr_one]; omega
theorem wrap_tdiv {k z : Int} {out : ByteArray} (hz : 0 < z) (h : out.size + z.toNat ≤ k.toNat) (hk : k ≤ 4611686018427387904) : IntKind.i64.wrap (z.tdiv 10) = z.tdiv 10 := by
  rw [Int.tdiv_eq_ediv_of_nonneg (by omega)]; exact wrap_id (by omega) (by omega)
theorem wrap_tmod {z : Int} (hz : 0 < z) : IntKind.i64.wrap (48 + z.tmod 10) = 48 + z.tmod 10 := by
  rw [Int.tmod_eq_emod_of_nonneg (by omega)]; exact wrap_id (by omega) (by omega)
theorem mark_sz {k z x : Int} {out : ByteArray} (hz : 0 < z) (h : out.size + z.toNat ≤ k.toNat) (hk : k ≤ 4611686018427387904) : (bstr [x]).size + out.size ≤ 9223372036854775807 := by
  rw [bstr_one]; omega
theorem mark_sz0 {k z : Int} {out : ByteArray} (h : out.size + z.toNat ≤ k.toNat) (hk : k ≤ 4611686018427387904) : (⟨#[109]⟩ : ByteArray).size + out.size ≤ 9223372036854775807 := by
  have : (⟨#[109]⟩ : ByteArray).size = 1 := rfl
  rw [this]; omega
def mkP (b : Int) : Pce := ⟨b, markText (b + 1)⟩
def mkS (b : Int) : Seg := ⟨b, b + 1, b + 2, b + 3, b + 4, b + 5, ⟨b + 6, b + 7, (b + 8).tmod 3 == 0, (b + 9).tmod 3 == 0, b + 10, b + 11⟩, markText (b + 12)⟩
def marks {α : Type} (mk : Int → α) (c k : Int) (n : Nat) : List α := (List.range n).map fun (i : Nat) => mk (k + c * (i : Int))
theorem marks_len {α : Type} (mk : Int → α) (c k : Int) (n : Nat) : (marks mk c k n).length = n := by simp [marks]
theorem marks_get {α : Type} {mk : Int → α} {c k : Int} {n i : Nat} {x : α} (h : (marks mk c k n)[i]? = some x) : x = mk (k + c * (i : Int)) := by
  have hi : i < n := by have := (List.getElem?_eq_some_iff.1 h).1; simpa [marks] using this
  simp [marks, hi] at h; exact h.symm
theorem mark_same {α : Type} {f : α → List Value} {mk : Int → α} {c k : Int} {l : List α} {i : Nat} {x : α} (h : l[i]? = some x) : ((marks mk c k i ++ l.drop i).map f) = ((marks mk c k i ++ l.drop i).map f).set i (f x) := by
  have hg : ((marks mk c k i ++ l.drop i).map f)[i]? = some (f x) := by
    rw [List.getElem?_map, List.getElem?_append_right (by rw [marks_len]; exact Nat.le_refl _), marks_len, Nat.sub_self, List.getElem?_drop]
    simp [h]
  obtain ⟨hlt, e⟩ := List.getElem?_eq_some_iff.1 hg
  rw [← e]; exact (List.set_getElem_self hlt).symm
theorem mark_next {α : Type} {f : α → List Value} {mk : Int → α} {c k : Int} {l : List α} {i : Nat} (h : i < l.length) : ((marks mk c k i ++ l.drop i).map f).set i (f (mk (k + c * (i : Int)))) = ((marks mk c k (i + 1) ++ l.drop (i + 1)).map f) := by
  rw [← List.map_set]
  congr 1
  rw [List.set_append_right _ _ (by rw [marks_len]; exact Nat.le_refl _), marks_len, Nat.sub_self]
  have hd : l.drop i = l[i] :: l.drop (i + 1) := List.drop_eq_getElem_cons h
  rw [hd, List.set_cons_zero]
  simp [marks, List.range_succ]
theorem mark_ln {α : Type} {f : α → List Value} {mk : Int → α} {c k : Int} {l : List α} {i : Nat} (h : i ≤ l.length) : ((marks mk c k i ++ l.drop i).map f).length = l.length := by
  simp [marks_len]; omega
theorem wk_fact0 {t : List (Nat × AV)} {b : List Box} {r : List (List Value)} {f g : Fact} {fs : List Fact} (h : f = g) : Wk ⟨t, b, r, f :: fs⟩ ⟨t, b, r, g :: fs⟩ := h ▸ Wk.refl _
theorem xw_fact0 {P : Program} {n : Nat} {w0 : World} {QX : Exit → St → Prop} {t : List (Nat × AV)} {b : List Box} {r : List (List Value)} {f g : Fact} {fs : List Fact} {c : Code} (h : f = g) (h1 : XW P n w0 QX c ⟨t, b, r, g :: fs⟩) : XW P n w0 QX c ⟨t, b, r, f :: fs⟩ := h ▸ h1
theorem marks_ne {α : Type} {f : α → List Value} {mk : Int → α} {c k : Int} {l : List α} (h : (marks mk c k l.length).map f ≠ []) : l.map f ≠ [] := fun e => by
  have : l = [] := by simpa using e
  subst this; exact h rfl
theorem xcm_own {P : Program} {w0 : World} {fs : List Fact} {f : FuncId} {args : List Value} {B K : Nat} {v r : Value} {rs rs' : List (List Value)} (hne : rs' ≠ [] → rs ≠ [])
    (h : ∀ w, w0.heap.size ≤ w.heap.size → (∀ g ∈ fs, g.p w) → Calls P f args.toArray w fun e w' => e = .returned r ∧ Own w' B v K rs' ∧ Chgd (ownF B v K rs).blk w w') :
    XCM P w0 fs (ownF B v K rs).blk f args (α := Unit) (fun _ => r) (fun _ => [ownF B v K rs']) := fun w hw hf => (h w hw hf).mono fun e w' ⟨he, ho, hc⟩ =>
  ⟨(), he, fun g hg => by
    have e : g = ownF B v K rs' := (by simpa using hg)
    subst e; exact ⟨ho, fun b hb => .inl ⟨hne hb.1, hb.2⟩⟩, Apart.one _, hc⟩
theorem apart_fr {W : World} {B K : Nat} {v : Value} {rs : List (List Value)} : Apart [ownF B v K rs, frF W (ownF B v K rs).blk] := (Apart.one _).cons fun x hx b hb hxb => by
  have e : x = frF W (ownF B v K rs).blk := (by simpa using hx)
  subst e; exact hxb.2 hb
end Go.Proofs.YtebgmdiejgcoiaaGreat
/- Plain definitions: the pump (no program in sight). -/
namespace Go.Proofs.YtebgmdiejgcoiaaGreat
open Go.RowKit
theorem bytes_ext {a b : ByteArray} (h : a.data.toList = b.data.toList) : a = b := by
  cases a; cases b; simp only at h; congr 1; exact Array.toList_inj.1 h
theorem ext_ext (a : ByteArray) (i n : Nat) (h : i + n ≤ a.size) : (a.extract i a.size).extract 0 n = a.extract i (i + n) := by
  apply bytes_ext
  simp only [ByteArray.data_extract, Array.toList_extract]
  simp [List.extract, List.drop_take, List.take_take]
theorem ext_size (a : ByteArray) (i j : Nat) (h : j ≤ a.size) : (a.extract i j).size = j - i := by rw [ByteArray.size_extract]; omega
theorem chunkN_i {s : Snd} {window mss : Int} (h : senderOk s = true) : max 0 (min (min ((s.data.extract s.sent.toNat s.data.size).size : Int) mss) (max window (-1) - flown s)) = chunkN s window mss := by
  obtain ⟨b0, b1, b2, b3, b4, b5, b6, b7, b8, b9, b10⟩ := senderOk_bd h
  rw [ext_size _ _ _ (Nat.le_refl _)]
  unfold chunkN wnd; omega
theorem chunkN_bd {s : Snd} {window mss : Int} (h : senderOk s = true) : 0 ≤ chunkN s window mss ∧ s.sent + chunkN s window mss ≤ s.data.size ∧ chunkN s window mss ≤ wnd s window ∧ 0 ≤ wnd s window ∧ wnd s window ≤ 1000000 := by
  obtain ⟨b0, b1, b2, b3, b4, b5, b6, b7, b8, b9, b10⟩ := senderOk_bd h
  unfold chunkN wnd; omega
theorem wnd_lt {s : Snd} {window mss : Int} (h : senderOk s = true) : (chunkN s window mss < max window (-1) - flown s) ↔ chunkN s window mss < wnd s window := by
  obtain ⟨b0, b1, b2, b3, b4, b5, b6, b7, b8, b9, b10⟩ := senderOk_bd h
  unfold chunkN wnd; omega
theorem toList_nil {a : ByteArray} : a.toList = [] ↔ a.size = 0 := by
  rw [ByteArray.toList_eq]
  show a.data.toList = [] ↔ a.data.size = 0
  rw [← Array.length_toList]; exact List.length_eq_zero_iff.symm
theorem chunk_text {s : Snd} {window mss : Int} (h : senderOk s = true) : (s.data.extract s.sent.toNat (s.sent + chunkN s window mss).toNat).size = (chunkN s window mss).toNat := by
  obtain ⟨b0, b1, b2, b3, b4, b5, b6, b7, b8, b9, b10⟩ := senderOk_bd h
  obtain ⟨c0, c1, c2, c3, c4⟩ := chunkN_bd (window := window) (mss := mss) h
  rw [ext_size _ _ _ (by omega)]; omega
theorem wnd_s {s : Snd} {window : Int} : max 0 (max 0 (min window 1000000) - flown s) = wnd s window := rfl
theorem rest_size {s : Snd} (h : senderOk s = true) : ((s.data.extract s.sent.toNat s.data.size).size : Int) = (s.data.size : Int) - s.sent := by
  obtain ⟨b0, b1, b2, b3, b4, -⟩ := senderOk_bd h
  rw [ext_size _ _ _ (Nat.le_refl _)]; omega
theorem chunkN_j {s : Snd} {window mss : Int} (h : senderOk s = true) : max 0 (min (min ((s.data.size : Int) - s.sent) mss) (max window (-1) - flown s)) = chunkN s window mss := by
  rw [← chunkN_i h, rest_size h]
theorem chunk_ext {s : Snd} {window mss : Int} (h : senderOk s = true) : (s.data.extract s.sent.toNat s.data.size).extract 0 (chunkN s window mss).toNat = s.data.extract s.sent.toNat (s.sent + chunkN s window mss).toNat := by
  obtain ⟨b0, b1, b2, b3, b4, -⟩ := senderOk_bd h
  obtain ⟨c0, c1, -⟩ := chunkN_bd (window := window) (mss := mss) h
  rw [ext_ext _ _ _ (by omega)]; congr 1; omega
theorem chunk_nil {s : Snd} {window mss : Int} (h : senderOk s = true) : ((s.data.extract s.sent.toNat (s.sent + chunkN s window mss).toNat).toList == (⟨#[]⟩ : ByteArray).toList) = (chunkN s window mss == 0) := by
  obtain ⟨c0, c1, -⟩ := chunkN_bd (window := window) (mss := mss) h
  have ht := chunk_text (window := window) (mss := mss) h
  rw [show (⟨#[]⟩ : ByteArray).toList = [] from toList_lit0, Bool.eq_iff_iff, beq_iff_eq, beq_iff_eq, toList_nil, ht]; omega
def mssO (o : Opt) : Int := if o.mss = 0 then 536 else max 1 (min o.mss 1460)
def meas (s : Snd) : Nat := (s.data.size - s.sent.toNat) + (if s.finSent then 0 else 1)
theorem sentS_fin (s : Snd) (c : Chk) (h : senderOk (sentS s c) = true) (hf : c.fin = true) : s.fin = true := by
  obtain ⟨-, -, -, -, -, -, -, -, b8, -, -⟩ := senderOk_bd h
  exact (b8 (by simp [sentS, hf])).1
theorem next_ok {s : Snd} {window mss : Int} (h : (nextChunk s window mss).2 = true) : senderOk s = true ∧ (nextChunk s window mss).1 = ⟨nextOf s, s.data.extract s.sent.toNat (s.sent + chunkN s window mss).toNat, chunkFin s window mss⟩ ∧ (chunkN s window mss ≠ 0 ∨ chunkFin s window mss = true) := by
  unfold nextChunk at h ⊢
  split at h
  · rename_i hs
    split at h
    · simp at h
    · rename_i hc
      refine ⟨hs, by rw [if_pos hs, if_neg hc], ?_⟩
      simp only [Bool.and_eq_true, decide_eq_true_eq, Bool.not_eq_true', not_and, Bool.not_eq_false] at hc
      by_cases h0 : chunkN s window mss = 0
      · exact .inr (hc h0)
      · exact .inl h0
  · simp at h
theorem sent_next {s : Snd} {window mss : Int} (h : (nextChunk s window mss).2 = true) : sentOff s (nextChunk s window mss).1 = { s with sent := s.sent + chunkN s window mss, finSent := s.finSent || chunkFin s window mss } ∧ senderOk { s with sent := s.sent + chunkN s window mss, finSent := s.finSent || chunkFin s window mss } = true := by
  obtain ⟨hs, hc, hne⟩ := next_ok h
  have hx := chunkN_bd (window := window) (mss := mss) hs
  have ht := chunk_text (window := window) (mss := mss) hs
  have hb := senderOk_bd hs
  obtain ⟨c0, c1, c2, c3, c4⟩ := hx
  obtain ⟨b0, b1, b2, b3, b4, b5, b6, b7, b8, b9, b10⟩ := hb
  have e : sentS s (nextChunk s window mss).1 = { s with sent := s.sent + chunkN s window mss, finSent := s.finSent || chunkFin s window mss } := by
    rw [hc]; unfold sentS; simp only [ht]
    rw [show s.sent + ((chunkN s window mss).toNat : Int) = s.sent + chunkN s window mss by omega, wrap_id (by omega) (by omega)]
  have hs2 := hs
  unfold senderOk at hs2
  simp only [Bool.and_eq_true, decide_eq_true_eq, Bool.or_eq_true, Bool.not_eq_true'] at hs2
  have hok : senderOk { s with sent := s.sent + chunkN s window mss, finSent := s.finSent || chunkFin s window mss } = true := by
    unfold senderOk
    simp only [Bool.and_eq_true, decide_eq_true_eq, Bool.or_eq_true, Bool.not_eq_true', inB]
    obtain ⟨⟨⟨⟨g1, g2⟩, g3⟩, g4⟩, g5⟩ := hs2
    refine ⟨⟨⟨⟨g1, g2⟩, by omega, by omega⟩, ?_⟩, ?_⟩
    · cases hf : chunkFin s window mss
      · cases hq : s.finSent
        · exact .inl rfl
        · right
          have := b8 hq
          exact ⟨this.1, by omega⟩
      · right
        unfold chunkFin at hf
        simp only [Bool.and_eq_true, decide_eq_true_eq, Bool.not_eq_true'] at hf
        exact ⟨hf.1, hf.2.2.2.1⟩
    · rcases g5 with g5 | g5
      · exact .inl g5
      · cases hd : s.done
        · exact .inl rfl
        · right
          refine ⟨⟨g5.1.1, ?_⟩, g5.2⟩
          have : chunkFin s window mss = false := by unfold chunkFin; simp [hd]
          rw [this, g5.1.2]; rfl
  refine ⟨?_, hok⟩
  unfold sentOff
  rw [e, hs, hok]
  have : ((nextChunk s window mss).1.fin && s.done) = false := by
    rw [hc]; simp only
    cases hd : s.done
    · simp
    · unfold chunkFin; simp [hd]
  rw [this]; rfl
theorem meas_next {s : Snd} {window mss : Int} (h : (nextChunk s window mss).2 = true) : meas (sentOff s (nextChunk s window mss).1) < meas s := by
  obtain ⟨e, -⟩ := sent_next h
  obtain ⟨hs, hc, hne⟩ := next_ok h
  obtain ⟨c0, c1, c2, c3, c4⟩ := chunkN_bd (window := window) (mss := mss) hs
  obtain ⟨b0, b1, b2, b3, b4, b5, b6, b7, b8, b9, b10⟩ := senderOk_bd hs
  rw [e]; unfold meas; simp only
  by_cases h0 : chunkN s window mss = 0
  · have hf : chunkFin s window mss = true := hne.resolve_left (fun h => h h0)
    have hq : s.finSent = false := by unfold chunkFin at hf; simp at hf; exact hf.2.1
    simp [h0, hf, hq]
  · cases hq : s.finSent <;> cases hf : chunkFin s window mss <;> simp <;> omega
def pumpC (s : Snd) (window mss : Int) : Snd × List Chk :=
  if _h : (nextChunk s window mss).2 = true then ((pumpC (sentOff s (nextChunk s window mss).1) window mss).1, (nextChunk s window mss).1 :: (pumpC (sentOff s (nextChunk s window mss).1) window mss).2) else (s, [])
termination_by meas s
decreasing_by all_goals exact meas_next (by assumption)
def segOf (c : Con) (ch : Chk) : Seg := ⟨c.t.my, c.t.port, ch.seq, c.r.next, (if ch.text.toList.isEmpty then 16 else 24) + (if ch.fin then 1 else 0), windowOf c.r, ⟨0, -1, false, false, 0, 0⟩, ch.text⟩
def tmr {α : Type} (c : Con) (l : List α) : Int := if l.isEmpty then c.timer else if c.timer = 0 then 3 else c.timer
def pump (c : Con) (window : Int) : Con × List Seg :=
  if conOk c && (!decide (c.state = 8) && !decide (c.state = 7)) then
    ({ c with s := (pumpC c.s window (mssO c.o)).1, timer := tmr c ((pumpC c.s window (mssO c.o)).2.map (segOf c)) }, (pumpC c.s window (mssO c.o)).2.map (segOf c))
  else (c, [])
theorem pumpL_step {c : Con} {s0 s : Snd} {L : List Seg} {row : Seg} {window mss : Int} (h : (nextChunk s window mss).2 = true) (hrow : segOf c (nextChunk s window mss).1 = row)
    (hk : (pumpC s0 window mss).2.map (segOf c) = L ++ (pumpC s window mss).2.map (segOf c)) : (pumpC s0 window mss).2.map (segOf c) = (L ++ [row]) ++ (pumpC (sentOff s (nextChunk s window mss).1) window mss).2.map (segOf c) := by
  rw [hk, pumpC, dif_pos h, ← hrow]; simp
theorem pumpS_step {s0 s : Snd} {window mss : Int} (h : (nextChunk s window mss).2 = true) (hk : (pumpC s0 window mss).1 = (pumpC s window mss).1) : (pumpC s0 window mss).1 = (pumpC (sentOff s (nextChunk s window mss).1) window mss).1 := by
  rw [hk, pumpC, dif_pos h]
theorem pumpL_end {c : Con} {s0 s : Snd} {L : List Seg} {window mss : Int} (h : (nextChunk s window mss).2 = false) (hk : (pumpC s0 window mss).2.map (segOf c) = L ++ (pumpC s window mss).2.map (segOf c)) : (pumpC s0 window mss).2.map (segOf c) = L := by
  rw [hk, pumpC, dif_neg (by rw [h]; simp)]; simp
theorem pumpS_end {s0 s : Snd} {window mss : Int} (h : (nextChunk s window mss).2 = false) (hk : (pumpC s0 window mss).1 = (pumpC s window mss).1) : (pumpC s0 window mss).1 = s := by
  rw [hk, pumpC, dif_neg (by rw [h]; simp)]
theorem pump_yes {c : Con} {s : Snd} {L : List Seg} {window t : Int} (h1 : conOk c = true) (h2 : ¬ c.state = 8) (h3 : ¬ c.state = 7) (hS : (pumpC c.s window (mssO c.o)).1 = s) (hL : (pumpC c.s window (mssO c.o)).2.map (segOf c) = L) (ht : tmr c L = t) : pump c window = ({ c with s := s, timer := t }, L) := by
  unfold pump; rw [hS, hL, ht, if_pos (by simp [h1, h2, h3])]
theorem tmr_next {α : Type} {c : Con} {l : List α} {x : α} {t t' : Int} (h : t = tmr c l) (h' : (if t = 0 then 3 else t) = t') : t' = tmr c (l ++ [x]) := by
  subst h; subst h'; unfold tmr
  cases l with
  | nil => simp
  | cons a l => simp; split <;> simp [*]
theorem row_len {l : List Seg} {x : Seg} {a b n : Nat} (h : l.length + a ≤ n) (hb : b < a) : (l ++ [x]).length + b ≤ n := by simp; omega
theorem conOk_s {c : Con} (h : conOk c = true) : senderOk c.s = true := by
  simp only [conOk, conPre, Bool.and_eq_true] at h; exact h.1.2.1
theorem meas_le {s : Snd} (h : senderOk s = true) : meas s ≤ 49 := by
  obtain ⟨b0, b1, b2, b3, b4, b5, b6, b7, b8, b9, b10⟩ := senderOk_bd h
  unfold meas; split <;> omega
theorem pumpC_len (window mss : Int) (s : Snd) : (pumpC s window mss).2.length ≤ meas s := by
  induction hn : meas s using Nat.strongRecOn generalizing s with
  | _ n ih =>
    rw [pumpC]; split
    · rename_i h
      have h1 := meas_next h
      have := ih _ (by omega) (sentOff s (nextChunk s window mss).1) rfl
      simp only [List.length_cons]; omega
    · simp
theorem pump_bd (c : Con) (window : Int) (h : c.r.held.length ≤ 1048576) : (pump c window).1.r.held.length ≤ 1048576 ∧ (pump c window).2.length ≤ 49 := by
  unfold pump; split
  · rename_i hc
    refine ⟨h, ?_⟩
    simp only [Bool.and_eq_true] at hc
    have hs : senderOk c.s = true := by have := hc.1; simp only [conOk, conPre, Bool.and_eq_true] at this; exact this.1.2.1
    have := pumpC_len window (mssO c.o) c.s; have := meas_le hs
    simp only [List.length_map]; omega
  · exact ⟨h, by simp⟩
end Go.Proofs.YtebgmdiejgcoiaaGreat
/- Plain definitions: calls and ticks (no program in sight). -/
namespace Go.Proofs.YtebgmdiejgcoiaaGreat
open Go.RowKit
def shut (c : Con) : Con × List Seg :=
  if conOk c then (if c.state = 1 then pump { c with s := { c.s with fin := true }, state := 2 } c.window else if c.state = 4 then pump { c with s := { c.s with fin := true }, state := 6 } c.window else (c, [])) else (c, [])
def write (c : Con) (text : ByteArray) : Con × Int × List Seg :=
  if conOk c && (decide (c.state = 1) || decide (c.state = 4)) then ((pump { c with s := (queued c.s text).1 } c.window).1, (queued c.s text).2, (pump { c with s := (queued c.s text).1 } c.window).2) else (c, 0, [])
theorem conOk_bd {c : Con} (h : conOk c = true) : 0 ≤ c.most ∧ c.most ≤ 1073725440 ∧ 0 ≤ c.window ∧ c.window ≤ 1073725440 ∧ 0 ≤ c.timer ∧ c.timer ≤ 4 ∧ 0 ≤ c.tries ∧ c.tries ≤ 3 ∧ 1 ≤ c.state ∧ c.state ≤ 8 := by
  simp only [conOk, conPre, conMid, Bool.and_eq_true] at h
  obtain ⟨⟨-, -, -, -, h1⟩, ⟨h2, h3, h4, h5⟩, -⟩ := h
  rw [inB_tt] at h1 h2 h3 h4 h5
  refine ⟨by omega, by omega, by omega, by omega, by omega, ?_, by omega, by omega, by omega, by omega⟩
  split at h4 <;> omega
end Go.Proofs.YtebgmdiejgcoiaaGreat
/- Plain definitions: what is heard, and received (no program in sight). -/
namespace Go.Proofs.YtebgmdiejgcoiaaGreat
open Go.RowKit
def heardMid (c : Con) (g : Seg) : Con :=
  if (acked c.s g.ack).2 then
    (if (¬ (acked c.s g.ack).1.una = c.s.una ∨ flown (acked c.s g.ack).1 = 0) ∧ ¬ c.state = 7 then
      { c with s := (acked c.s g.ack).1, window := farW g.window c.o, most := max c.most (farW g.window c.o), tries := 0, timer := if 0 < flown (acked c.s g.ack).1 then 3 else 0 }
     else { c with s := (acked c.s g.ack).1, window := farW g.window c.o, most := max c.most (farW g.window c.o) })
  else c
def heardR (c : Con) (g : Seg) : Rcv := if inB c.state 1 3 then arrived c.r g.seq g.body (hasF g.flags 1) else c.r
def heard (c : Con) (g : Seg) : Con := if verdict c g = 5 then turned { heardMid c g with r := heardR c g } else c
def answered (c : Con) (g : Seg) : Con × List Seg :=
  if c.state = 8 then (c, []) else ((pump c c.window).1, if 0 < segLen g ∧ (pump c c.window).2.length = 0 then [ackOf c] else (pump c c.window).2)
def received (c : Con) (g : Seg) : Con × List Seg × Int :=
  if verdict c g = 1 then (c, [], 1)
  else if verdict c g = 2 then ({ c with state := 8, timer := 0, tries := 0 }, [], 2)
  else if verdict c g = 3 then (c, [ackOf c], 3)
  else if verdict c g = 4 then (if c.state = 7 ∧ hasF g.flags 1 = true then { c with timer := 4 } else c, [ackOf c], 4)
  else ((answered (heard c g) g).1, (answered (heard c g) g).2, 5)
theorem received_ack {c : Con} {g : Seg} {tm : Int} (h : verdict c g = 4) (htm : tm = if verdict c g = 4 ∧ c.state = 7 ∧ hasF g.flags 1 = true then 4 else c.timer) : received c g = ({ c with timer := tm }, [ackOf c], 4) := by
  unfold received; rw [if_neg (by omega), if_neg (by omega), if_neg (by omega), if_pos h]
  by_cases hx : c.state = 7 ∧ hasF g.flags 1 = true
  · rw [if_pos hx, htm, if_pos ⟨h, hx⟩]
  · rw [if_neg hx, htm, if_neg (fun e => hx e.2)]
theorem received_chal {c : Con} {g : Seg} {tm : Int} (h : verdict c g = 3) (htm : tm = if verdict c g = 4 ∧ c.state = 7 ∧ hasF g.flags 1 = true then 4 else c.timer) : received c g = ({ c with timer := tm }, [ackOf c], 3) := by
  unfold received; rw [if_neg (by omega), if_neg (by omega), if_pos h, htm, if_neg (fun e => by omega)]
theorem verdict_rng (c : Con) (g : Seg) : 1 ≤ verdict c g ∧ verdict c g ≤ 5 := by unfold verdict; (repeat' split) <;> omega
theorem verdict_fine {c : Con} {g : Seg} (h : verdict c g = 5) : conOk c = true ∧ ¬ c.state = 8 ∧ segmentOk g = true ∧ hasF g.flags 4 = false ∧ hasF g.flags 2 = false ∧ acceptable c g = true ∧ hasF g.flags 16 = true ∧ ackFits c g.ack = true := by
  unfold verdict at h
  split at h
  · omega
  rename_i h1
  simp only [Bool.or_eq_true, Bool.not_eq_true', decide_eq_true_eq, not_or, Bool.not_eq_false] at h1
  split at h
  · (repeat' split at h) <;> omega
  split at h
  · omega
  split at h
  · omega
  split at h
  · omega
  split at h
  · omega
  simp_all
theorem conOk_r {c : Con} (h : conOk c = true) : receiverOk c.r = true ∧ optionsOk c.o = true ∧ tupleOk c.t = true := by
  simp only [conOk, conPre, Bool.and_eq_true] at h; exact ⟨h.1.2.2.1, h.1.2.2.2.1, h.1.1⟩
theorem segmentOk_w {g : Seg} (h : segmentOk g = true) : 0 ≤ g.window ∧ g.window ≤ 65535 := by
  simp only [segmentOk, Bool.and_eq_true] at h; exact wordOk16_bd h.2.2.1
theorem farW_bd {w : Int} {o : Opt} (h : 0 ≤ w ∧ w ≤ 65535) (ho : optionsOk o = true) : 0 ≤ farW w o ∧ farW w o ≤ 1073725440 := by
  have := optionsOk_bd ho
  unfold farW
  exact ⟨Int.mul_nonneg h.1 (Int.pow_nonneg (by omega)), far_le h.1 h.2 (by omega) (by omega)⟩
theorem pcs_bd : ∀ (l : List Int) (acc : List Pce) (j : Nat), (∀ p ∈ acc, 0 ≤ p.off ∧ p.off + (p.text.size : Int) ≤ (j : Int)) → ∀ p ∈ pcs acc j l, 0 ≤ p.off ∧ p.off + (p.text.size : Int) ≤ ((j + l.length : Nat) : Int)
  | [], acc, j, h, p, hp => by simpa using h p hp
  | x :: l, acc, j, h, p, hp => by
    rw [pcs] at hp
    have := pcs_bd l _ (j + 1) (fun q hq => by
      split at hq
      · have := h q hq; omega
      · have := addByte_bd h q hq; omega) p hp
    rw [List.length_cons]; omega
theorem arrived_sz {r : Rcv} {seq : Int} {t : ByteArray} {fin : Bool} {H T D : Nat} (h1 : r.held.length ≤ H) (h2 : ∀ p ∈ r.held, p.text.size ≤ T) (h3 : r.data.size ≤ D) (hH : 3 ≤ H) (hT : 33 ≤ T) (hD : 65 ≤ D) :
    (arrived r seq t fin).held.length ≤ H ∧ (∀ p ∈ (arrived r seq t fin).held, p.text.size ≤ T) ∧ (arrived r seq t fin).data.size ≤ D := by
  unfold arrived
  split
  · rename_i hok
    simp only [Bool.and_eq_true] at hok
    have hr := rok_facts hok.1
    have hl := allIn_len r seq t
    have hb : ∀ p ∈ pcs [] 0 ((allIn r seq t).drop (filled (allIn r seq t))), p.text.size ≤ T := fun p hp => by
      have := pcs_bd _ [] 0 (by simp) p hp
      rw [List.length_drop, hl] at this; omega
    have hd : (r.data ++ bstr ((allIn r seq t).take (filled (allIn r seq t)))).size ≤ D := by
      rw [ByteArray.size_append, bstr_len, List.length_take, hl]; omega
    split
    · exact ⟨h1, h2, h3⟩
    · rename_i hn
      split
      · exact ⟨by dsimp only; omega, hb, hd⟩
      · exact ⟨by dsimp only; omega, hb, hd⟩
  · exact ⟨h1, h2, h3⟩
theorem turned_w (c : Con) : (turned c).window = c.window ∧ (turned c).s = c.s ∧ (turned c).r = c.r ∧ (turned c).most = c.most ∧ (turned c).o = c.o ∧ (turned c).t = c.t := by unfold turned; (repeat' split) <;> exact ⟨rfl, rfl, rfl, rfl, rfl, rfl⟩
theorem heardMid_eq (c : Con) (g : Seg) : (heardMid c g).r = c.r ∧ (heardMid c g).t = c.t ∧ (heardMid c g).state = c.state ∧ (heardMid c g).o = c.o := by unfold heardMid; (repeat' split) <;> exact ⟨rfl, rfl, rfl, rfl⟩
theorem heardR_sz {c : Con} {g : Seg} {H T D : Nat} (h1 : c.r.held.length ≤ H) (h2 : ∀ p ∈ c.r.held, p.text.size ≤ T) (h3 : c.r.data.size ≤ D) (hH : 3 ≤ H) (hT : 33 ≤ T) (hD : 65 ≤ D) :
    (heardR c g).held.length ≤ H ∧ (∀ p ∈ (heardR c g).held, p.text.size ≤ T) ∧ (heardR c g).data.size ≤ D := by
  unfold heardR; split
  · exact arrived_sz h1 h2 h3 hH hT hD
  · exact ⟨h1, h2, h3⟩
theorem heard_r (c : Con) (g : Seg) : (heard c g).r = heardR c g ∨ (heard c g).r = c.r := by
  unfold heard; split
  · rw [(turned_w _).2.2.1]; exact .inl rfl
  · exact .inr rfl
theorem heard_sz {c : Con} {g : Seg} {H T D : Nat} (h1 : c.r.held.length ≤ H) (h2 : ∀ p ∈ c.r.held, p.text.size ≤ T) (h3 : c.r.data.size ≤ D) (hH : 3 ≤ H) (hT : 33 ≤ T) (hD : 65 ≤ D) :
    (heard c g).r.held.length ≤ H ∧ (∀ p ∈ (heard c g).r.held, p.text.size ≤ T) ∧ (heard c g).r.data.size ≤ D := by
  rcases heard_r c g with e | e <;> rw [e]
  · exact heardR_sz h1 h2 h3 hH hT hD
  · exact ⟨h1, h2, h3⟩
theorem heard_w {c : Con} {g : Seg} (h : verdict c g = 5) : 0 ≤ (heard c g).window ∧ (heard c g).window ≤ 1073725440 := by
  obtain ⟨h1, -, h3, -⟩ := verdict_fine h
  have hf := farW_bd (segmentOk_w h3) (conOk_r h1).2.1
  have hc := conOk_bd h1
  unfold heard; rw [if_pos h, (turned_w _).1]
  show 0 ≤ (heardMid c g).window ∧ (heardMid c g).window ≤ _
  unfold heardMid; (repeat' split) <;> first | exact hf | exact ⟨hc.2.2.1, hc.2.2.2.1⟩
theorem received_drop {c : Con} {g : Seg} (h1 : ¬ verdict c g = 2) (h2 : ¬ verdict c g = 3) (h3 : ¬ verdict c g = 4) (h4 : ¬ verdict c g = 5) : received c g = (c, [], verdict c g) := by
  have h : verdict c g = 1 := by have := verdict_rng c g; omega
  unfold received; rw [if_pos h, h]
theorem pump_rr (c : Con) (w : Int) : (pump c w).1.r = c.r := by unfold pump; split <;> rfl
theorem pump_none {c : Con} {w : Int} (h : (pump c w).2 = []) : pump c w = (c, []) := by
  unfold pump at h ⊢
  split
  · rename_i hc
    rw [if_pos hc] at h
    have hn : ¬ (nextChunk c.s w (mssO c.o)).2 = true := fun q => by rw [pumpC, dif_pos q] at h; simp at h
    have e : pumpC c.s w (mssO c.o) = (c.s, []) := by rw [pumpC, dif_neg hn]
    rw [e]; rfl
  · rfl
theorem received_seg {c : Con} {g : Seg} (hv : verdict c g = 5) (h8 : ¬ (heard c g).state = 8) (hp : pump (heard c g) (heard c g).window = (heard c g, [])) (hs : ¬ segLen g = 0) :
    received c g = ((pump (heard c g) (heard c g).window).1, [ackOf (pump (heard c g) (heard c g).window).1], verdict c g) := by
  have hs1 : 0 ≤ segLen g := by unfold segLen; split <;> split <;> omega
  have hs0 : 0 < segLen g := by omega
  unfold received; rw [if_neg (by omega), if_neg (by omega), if_neg (by omega), if_neg (by omega), hv]
  unfold answered; rw [if_neg h8, hp]; simp [hs0]
end Go.Proofs.YtebgmdiejgcoiaaGreat
/- Plain definitions: the slots as two arrays, and what is kept of them (no program in sight). -/
namespace Go.Proofs.YtebgmdiejgcoiaaGreat
open Go.RowKit
set_option linter.unusedVariables false
def hvOf (W : Nat) (sl : List Int) : List Bool := (sl.take W).map fun x => decide (0 ≤ x)
def dtOf (W : Nat) (sl : List Int) : List Int := (sl.take W).map fun x => max x 0
def stOne (sl : List Int) (off : Nat) (x : Int) : List Int := if 0 ≤ slotAt sl off then sl else sl.set off x
theorem hvOf_len {W : Nat} {sl : List Int} (h : W ≤ sl.length) : (hvOf W sl).length = W := by unfold hvOf; simp; omega
theorem dtOf_len {W : Nat} {sl : List Int} (h : W ≤ sl.length) : (dtOf W sl).length = W := by unfold dtOf; simp; omega
theorem hvOf_get {W off : Nat} {sl : List Int} {x : Int} (hw : off < W) (h : sl[off]? = some x) : (hvOf W sl)[off]? = some (decide (0 ≤ x)) := by
  unfold hvOf; rw [List.getElem?_map, List.getElem?_take_of_lt hw, h]; rfl
theorem dtOf_get {W off : Nat} {sl : List Int} {x : Int} (hw : off < W) (h : sl[off]? = some x) : (dtOf W sl)[off]? = some (max x 0) := by
  unfold dtOf; rw [List.getElem?_map, List.getElem?_take_of_lt hw, h]; rfl
theorem hvOf_set {W off : Nat} {sl : List Int} {x : Int} (hx : 0 ≤ x) : (hvOf W sl).set off true = hvOf W (sl.set off x) := by
  unfold hvOf; rw [List.take_set, List.map_set, show decide (0 ≤ x) = true from decide_eq_true hx]
theorem dtOf_set {W off : Nat} {sl : List Int} {x : Int} (hx : 0 ≤ x) : (dtOf W sl).set off x = dtOf W (sl.set off x) := by
  unfold dtOf; rw [List.take_set, List.map_set, show max x 0 = x by omega]
theorem hvOf_start {W : Nat} (h : W ≤ 33) : hvOf W (List.replicate 33 (-1)) = List.replicate W false := by
  unfold hvOf; rw [List.take_replicate, List.map_replicate, Nat.min_eq_left h]; rfl
theorem dtOf_start {W : Nat} (h : W ≤ 33) : dtOf W (List.replicate 33 (-1)) = List.replicate W 0 := by
  unfold dtOf; rw [List.take_replicate, List.map_replicate, Nat.min_eq_left h]; rfl
theorem stOne_len (sl : List Int) (off : Nat) (x : Int) : (stOne sl off x).length = sl.length := by unfold stOne; split <;> simp
theorem stOne_free {sl : List Int} {off : Nat} {x z : Int} (h : sl[off]? = some z) (hz : z < 0) : stOne sl off x = sl.set off x := by
  unfold stOne; rw [slotAt_of h, if_neg (by omega)]
theorem stOne_full {sl : List Int} {off : Nat} {x z : Int} (h : sl[off]? = some z) (hz : 0 ≤ z) : stOne sl off x = sl := by
  unfold stOne; rw [slotAt_of h, if_pos hz]
theorem stOne_far {sl : List Int} {off j : Nat} {x : Int} (h : off ≠ j) : (stOne sl off x)[j]? = sl[j]? := by
  unfold stOne; split
  · rfl
  · rw [List.getElem?_set_ne h]
def arrF (B gh gd bh bd T1 T2 e1 e2 W : Nat) (sl : List Int) : Fact := allF [cellF B gh T1 [.slice (some ⟨bh, 0, none⟩) W W], cellF B gd T2 [.slice (some ⟨bd, 0, none⟩) W W], rowF B e1 1 (.slice (some ⟨bh, 0, none⟩) W W) ((hvOf W sl).map boolRow), rowF B e2 1 (.slice (some ⟨bd, 0, none⟩) W W) ((dtOf W sl).map byteRow)]
theorem arrF_lo {B gh gd bh bd T1 T2 e1 e2 W : Nat} {sl : List Int} {w : World} (h : (arrF B gh gd bh bd T1 T2 e1 e2 W sl).p w) {b : Nat} (hb : (arrF B gh gd bh bd T1 T2 e1 e2 W sl).blk b) : B ≤ b := by
  obtain ⟨g, hg, hq⟩ := hb
  have hp := h.1 g hg
  simp only [List.mem_cons, List.not_mem_nil, or_false] at hg
  rcases hg with rfl | rfl | rfl | rfl
  · have e : b = gh := hq
    subst e; exact hp.1
  · have e : b = gd := hq
    subst e; exact hp.1
  · exact rowF_lo hp hq
  · exact rowF_lo hp hq
theorem arrF_blk {B gh gd bh bd T1 T2 e1 e2 W : Nat} {sl sl' : List Int} {b : Nat} (hb : (arrF B gh gd bh bd T1 T2 e1 e2 W sl').blk b) : (arrF B gh gd bh bd T1 T2 e1 e2 W sl).blk b := by
  obtain ⟨g, hg, hq⟩ := hb
  simp only [List.mem_cons, List.not_mem_nil, or_false] at hg
  rcases hg with rfl | rfl | rfl | rfl
  · exact ⟨_, by simp, hq⟩
  · exact ⟨_, .tail _ (.head _), hq⟩
  · exact ⟨_, .tail _ (.tail _ (.head _)), hq⟩
  · exact ⟨_, .tail _ (.tail _ (.tail _ (.head _))), hq⟩
theorem xcm_arr {P : Program} {w0 : World} {fs : List Fact} {f : FuncId} {args : List Value} {v : Value} {B gh gd bh bd T1 T2 e1 e2 W : Nat} {sl sl' : List Int}
    (h : ∀ w, w0.heap.size ≤ w.heap.size → (∀ g ∈ fs, g.p w) → Calls P f args.toArray w fun e w' => e = .returned v ∧ (arrF B gh gd bh bd T1 T2 e1 e2 W sl').p w' ∧ Chgd (arrF B gh gd bh bd T1 T2 e1 e2 W sl).blk w w') :
    XCM P w0 fs (arrF B gh gd bh bd T1 T2 e1 e2 W sl).blk f args (α := Unit) (fun _ => v) (fun _ => [arrF B gh gd bh bd T1 T2 e1 e2 W sl']) := fun w hw hf => (h w hw hf).mono fun e w' ⟨he, hp, hc⟩ =>
  ⟨(), he, fun g hg => by
    obtain rfl : g = arrF B gh gd bh bd T1 T2 e1 e2 W sl' := by simpa using hg
    exact ⟨hp, fun b hb => .inl (arrF_blk hb)⟩, Apart.one _, hc⟩
theorem apart_frS {gs : List Fact} {W : World} {S : Nat → Prop} (h : Apart gs) (hS : ∀ g ∈ gs, ∀ b, g.blk b → S b) : Apart (gs ++ [frF W S]) :=
  h.append (Apart.one _) fun f hf g hg b hb hgb => by
    obtain rfl : g = frF W S := by simpa using hg
    exact hgb.2 (hS f hf b hb)
theorem own4 {f1 f2 f3 f4 : Fact} (h1 : f1.own = true) (h2 : f2.own = true) (h3 : f3.own = true) (h4 : f4.own = true) : ∀ g ∈ [f1, f2, f3, f4], g.own = true := fun g hg => by
  simp only [List.mem_cons, List.not_mem_nil, or_false] at hg
  rcases hg with rfl | rfl | rfl | rfl <;> assumption
theorem rok_held {r : Rcv} (h : receiverOk r = true) : heldOk (if r.fin = -1 then windowOf r else r.fin) 0 r.held = true := by
  unfold receiverOk at h; simp only [Bool.and_eq_true] at h; exact h.2.1
theorem held_step {m e : Int} {l : List Pce} {i : Nat} {p : Pce} (h : heldOk m e (l.drop i) = true) (hx : l[i]? = some p) : e < p.off ∧ p.off + (p.text.size : Int) ≤ m ∧ heldOk m (p.off + (p.text.size : Int)) (l.drop (i + 1)) = true := by
  obtain ⟨hl, e1⟩ := List.getElem?_eq_some_iff.1 hx
  rw [List.drop_eq_getElem_cons hl, e1] at h
  simp only [heldOk, Bool.and_eq_true, decide_eq_true_eq] at h
  exact ⟨h.2.1, by omega, h.2.2.2⟩
theorem text_yes {r : Rcv} {seq : Int} {t : ByteArray} {l : List Int} {k : Nat} (h1 : ((offN r seq k : Nat) : Int) < windowOf r) (h2 : r.fin < 0 ∨ ((offN r seq k : Nat) : Int) < r.fin) : textStep r seq t l k = stOne l (offN r seq k) (byteAt t k) := by
  rw [textStep_eq]; unfold stOne
  by_cases h : 0 ≤ slotAt l (offN r seq k)
  · rw [if_neg (by omega), if_pos h]
  · rw [if_pos ⟨h1, h2, by omega⟩, if_neg h]
theorem text_no {r : Rcv} {seq : Int} {t : ByteArray} {l : List Int} {k : Nat} (h : ¬ (((offN r seq k : Nat) : Int) < windowOf r ∧ (r.fin < 0 ∨ ((offN r seq k : Nat) : Int) < r.fin))) : textStep r seq t l k = l := by
  rw [textStep_eq, if_neg (by rintro ⟨h1, h2, -⟩; exact h ⟨h1, h2⟩)]
def hasB (l : List Bool) (b : Bool) : Bool := l.any (b == ·)
theorem hasB_free {W p : Nat} {sl : List Int} (hbe : ∀ j, W ≤ j → j < 33 → sl[j]? = some (-1)) (hl : sl.length = 33) (hW : W ≤ 32) (hp : p ≤ W) : hasB (((hvOf W sl).drop p).take (W - p)) true = !freeFrom sl p := by
  have e0 : ((hvOf W sl).drop p).take (W - p) = (hvOf W sl).drop p := List.take_of_length_le (by rw [List.length_drop, hvOf_len (by omega)]; omega)
  rw [e0]
  cases hf : freeFrom sl p with
  | true =>
    unfold freeFrom at hf; rw [List.all_eq_true] at hf
    unfold hasB
    rw [Bool.not_true, ← Bool.not_eq_true, List.any_eq_true]
    rintro ⟨x, hx, hq⟩
    unfold hvOf at hx
    rw [← List.map_drop] at hx
    obtain ⟨y, hy, rfl⟩ := List.mem_map.1 hx
    have h1 := hf y (by rw [List.drop_take] at hy; exact List.mem_of_mem_take hy)
    simp at h1 hq; omega
  | false =>
    unfold freeFrom at hf
    rw [Bool.not_false]
    have : ¬ ∀ x ∈ sl.drop p, decide (x < 0) = true := fun h => by rw [List.all_eq_true.2 h] at hf; cases hf
    simp only [Classical.not_forall, decide_eq_true_eq] at this
    obtain ⟨x, hx, hn⟩ := this
    obtain ⟨i, hi⟩ := List.getElem?_of_mem hx
    rw [List.getElem?_drop] at hi
    have hlt : p + i < W := by
      rcases Nat.lt_or_ge (p + i) W with h | h
      · exact h
      · have h3 := (List.getElem?_eq_some_iff.1 hi).1
        rw [hbe _ h (by omega)] at hi
        simp only [Option.some.injEq] at hi; omega
    unfold hasB; rw [List.any_eq_true]
    refine ⟨true, List.mem_of_getElem? (i := i) ?_, rfl⟩
    rw [List.getElem?_drop, hvOf_get hlt hi, show decide (0 ≤ x) = true from decide_eq_true (by omega)]
theorem dt_part {W i n : Nat} {sl : List Int} (h : i + n ≤ W) (hp : ∀ x ∈ (sl.drop i).take n, 0 ≤ x) : ((dtOf W sl).drop i).take n = (sl.drop i).take n := by
  unfold dtOf
  rw [← List.map_drop, ← List.map_take, List.drop_take, List.take_take, Nat.min_eq_left (by omega)]
  conv => rhs; rw [← List.map_id ((sl.drop i).take n)]
  exact List.map_congr_left fun x hx => by have := hp x hx; simp only [id]; omega
theorem pcs_neg (acc : List Pce) : ∀ (l : List Int) (j : Nat), (∀ x ∈ l, x < 0) → pcs acc j l = acc
  | [], _, _ => rfl
  | x :: l, j, h => by rw [pcs, if_pos (h x (by simp))]; exact pcs_neg acc l _ fun y hy => h y (by simp [hy])
theorem beyond_neg {W : Nat} {sl : List Int} (hbe : ∀ j, W ≤ j → j < 33 → sl[j]? = some (-1)) (hl : sl.length = 33) : ∀ x ∈ sl.drop W, x < 0 := fun x hx => by
  obtain ⟨i, hi⟩ := List.getElem?_of_mem hx
  rw [List.getElem?_drop] at hi
  have h3 := (List.getElem?_eq_some_iff.1 hi).1
  rw [hbe _ (by omega) (by omega)] at hi
  simp only [Option.some.injEq] at hi; omega
theorem pcs_piece {sl : List Int} {out : List Pce} {n i j : Nat} (hni : n ≤ i) (hij : i < j) (hj : j ≤ sl.length) (hrun : ∀ x ∈ (sl.drop i).take (j - i), 0 ≤ x) (ht : ¬ touches out (i - n)) :
    pcs out (i - n) (sl.drop i) = pcs (out ++ [⟨((i - n : Nat) : Int), bstr ((sl.drop i).take (j - i))⟩]) (j - n) (sl.drop j) := by
  have hsplit : sl.drop i = (sl.drop i).take (j - i) ++ sl.drop j := by
    conv => lhs; rw [← List.take_append_drop (j - i) (sl.drop i)]
    rw [List.drop_drop]; congr 2; omega
  have hlen : ((sl.drop i).take (j - i)).length = j - i := by rw [List.length_take, List.length_drop]; omega
  cases hc : (sl.drop i).take (j - i) with
  | nil => rw [hc] at hlen; simp at hlen; omega
  | cons x run =>
    rw [hc] at hrun hlen
    conv => lhs; rw [hsplit, hc]
    rw [pcs_begin out (i - n) x run (sl.drop j) (hrun x (by simp)) (fun y hy => hrun y (by simp [hy])) ht]
    congr 1
    simp only [List.length_cons] at hlen ⊢; omega
theorem bd_more {out : List Pce} {a c : Nat} {t : ByteArray} (h : ∀ p ∈ out, 0 ≤ p.off ∧ p.off + (p.text.size : Int) ≤ (a : Int)) (ha : a ≤ c) (ht : a + t.size ≤ c) : ∀ p ∈ out ++ [(⟨(a : Int), t⟩ : Pce)], 0 ≤ p.off ∧ p.off + (p.text.size : Int) ≤ (c : Int) := fun p hp => by
  rcases List.mem_append.1 hp with hp | hp
  · have := h p hp; omega
  · rw [List.mem_singleton] at hp; subst hp; dsimp only; omega
theorem touch_skip {out : List Pce} {m : Nat} (hbd : ∀ p ∈ out, 0 ≤ p.off ∧ p.off + (p.text.size : Int) ≤ (m : Int)) : ¬ touches out (m + 1) := by
  rintro ⟨p, hp, he⟩
  have := hbd p (List.mem_of_getLast? hp); omega
theorem run_more {sl : List Int} {i j : Nat} {x : Int} (hij : i ≤ j) (h : ∀ x ∈ (sl.drop i).take (j - i), 0 ≤ x) (hx : sl[j]? = some x) (h0 : 0 ≤ x) : ∀ x ∈ (sl.drop i).take (j + 1 - i), 0 ≤ x := fun y hy => by
  have e : (sl.drop i).take (j + 1 - i) = (sl.drop i).take (j - i) ++ [x] := by
    rw [show j + 1 - i = (j - i) + 1 by omega, List.take_add_one, List.getElem?_drop, show i + (j - i) = j by omega, hx]; rfl
  rw [e] at hy
  rcases List.mem_append.1 hy with hy | hy
  · exact h y hy
  · rw [List.mem_singleton] at hy; omega
theorem dt_head {W n : Nat} {sl : List Int} (h : n ≤ W) (hp : ∀ x ∈ sl.take n, 0 ≤ x) : bstr (((dtOf W sl).drop 0).take (n - 0)) = bstr (sl.take n) := by
  have := dt_part (W := W) (i := 0) (n := n) (sl := sl) (by omega) (by simpa using hp)
  rw [Nat.sub_zero, this]; simp
def idxL (b : Bool) : List Bool → Nat → Int
  | [], _ => -1
  | x :: xs, k => if b = x then (k : Int) else idxL b xs (k + 1)
theorem idx_has (b : Bool) : ∀ (l : List Bool) (k : Nat), decide (idxL b l k ≥ 0) = hasB l b
  | [], k => rfl
  | x :: xs, k => by
    by_cases h : b = x
    · have e : idxL b (x :: xs) k = k := by rw [idxL, if_pos h]
      rw [show decide (idxL b (x :: xs) k ≥ 0) = true from decide_eq_true (by omega)]
      unfold hasB; simp [h]
    · have e : idxL b (x :: xs) k = idxL b xs (k + 1) := by rw [idxL, if_neg h]
      have h2 := idx_has b xs (k + 1)
      unfold hasB at h2 ⊢
      rw [List.any_cons, ← h2, show (b == x) = false from by simpa using h, Bool.false_or]
      simp only [e]
end Go.Proofs.YtebgmdiejgcoiaaGreat
/- Plain definitions: sizes of what is drawn (no program in sight). -/
namespace Go.Proofs.YtebgmdiejgcoiaaGreat
open Go.RowKit
def RB (H : Nat) (r : Rcv) : Prop := r.held.length ≤ H ∧ (∀ p ∈ r.held, p.text.size ≤ 33) ∧ r.data.size ≤ 65
theorem RB.hm {r : Rcv} {H : Nat} (h : RB H r) : ∀ p ∈ r.held, p.text.size ≤ 1048576 := fun p hp => Nat.le_trans (h.2.1 p hp) (by decide)
theorem RB.sz {r : Rcv} {H : Nat} (h : RB H r) : r.data.size ≤ 4611686018427387904 := Nat.le_trans h.2.2 (by decide)
theorem RB.up {r : Rcv} (h : RB 3 r) : RB 4 r := ⟨Nat.le_trans h.1 (by decide), h.2.1, h.2.2⟩
theorem RB.new (n : Int) : RB 3 (receiverNew n) := ⟨Nat.zero_le _, fun p hp => by simp [receiverNew] at hp, Nat.zero_le _⟩
theorem RB.taken {r : Rcv} {H : Nat} (h : RB H r) (n : Int) : RB H (takenIn r n).1 := ⟨by rw [takenIn_held]; exact h.1, by rw [takenIn_held]; exact h.2.1, Nat.le_trans (takenIn_sz r n) h.2.2⟩
theorem RB.more {r : Rcv} (h : RB 3 r) (p : Pce) (hp : p.text.size ≤ 33) {d : ByteArray} (hd : d.size ≤ 65) {next fin : Int} {done : Bool} : RB 4 ⟨next, d, r.held ++ [p], fin, done⟩ :=
  ⟨by rw [List.length_append]; have := h.1; simp; omega, fun q hq => by
    rcases List.mem_append.1 hq with hq | hq
    · exact h.2.1 q hq
    · rw [List.mem_singleton] at hq; subst hq; exact hp, hd⟩
theorem pump_r (c : Con) (w : Int) : (pump c w).1.r = c.r := by unfold pump; split <;> rfl
theorem RB.pump {c : Con} {H : Nat} (h : RB H c.r) (w : Int) : RB H (Go.Proofs.YtebgmdiejgcoiaaGreat.pump c w).1.r := by rw [pump_r]; exact h
theorem RB.write {c : Con} {H : Nat} (h : RB H c.r) (t : ByteArray) : RB H (Go.Proofs.YtebgmdiejgcoiaaGreat.write c t).1.r := by unfold Go.Proofs.YtebgmdiejgcoiaaGreat.write; split <;> first | (dsimp only; rw [pump_r]; exact h) | exact h
theorem RB.shut {c : Con} {H : Nat} (h : RB H c.r) : RB H (Go.Proofs.YtebgmdiejgcoiaaGreat.shut c).1.r := by
  unfold Go.Proofs.YtebgmdiejgcoiaaGreat.shut; (repeat' split) <;> first | exact h | (rw [pump_r]; exact h)
theorem RB.read {c : Con} {H : Nat} (h : RB H c.r) (n : Int) : RB H (readConn c n).1.r := by
  unfold readConn; (repeat' split) <;> first | exact h | exact RB.taken h n
theorem RB.heard {c : Con} {H : Nat} (h : RB H c.r) (hH : 3 ≤ H) (g : Seg) : RB H (Go.Proofs.YtebgmdiejgcoiaaGreat.heard c g).r := heard_sz h.1 h.2.1 h.2.2 hH (Nat.le_refl _) (Nat.le_refl _)
end Go.Proofs.YtebgmdiejgcoiaaGreat
/- Plain laws: a new connection (no program in sight). -/
namespace Go.Proofs.YtebgmdiejgcoiaaGreat
open Go.RowKit
end Go.Proofs.YtebgmdiejgcoiaaGreat
/- Plain laws: what is taken, turned, acceptable (no program in sight). -/
namespace Go.Proofs.YtebgmdiejgcoiaaGreat
open Go.RowKit
end Go.Proofs.YtebgmdiejgcoiaaGreat
/- Plain laws: a right connection stays right (no program in sight). -/
namespace Go.Proofs.YtebgmdiejgcoiaaGreat
open Go.RowKit
theorem conOk_iff {c : Con} : conOk c = true ↔ (tupleOk c.t = true ∧ senderOk c.s = true ∧ receiverOk c.r = true ∧ optionsOk c.o = true ∧ (1 ≤ c.state ∧ c.state ≤ 8)) ∧ ((0 ≤ c.most ∧ c.most ≤ 1073725440) ∧ (0 ≤ c.window ∧ c.window ≤ c.most) ∧ (0 ≤ c.timer ∧ c.timer ≤ (if c.state = 7 then 4 else 3)) ∧ (0 ≤ c.tries ∧ c.tries ≤ 3)) ∧ stateFits c = true := by
  simp only [conOk, conPre, conMid, Bool.and_eq_true, inB_tt]
end Go.Proofs.YtebgmdiejgcoiaaGreat
/- Plain laws: what a pump sends, and how a connection that waits comes to its end (no program in sight). -/
namespace Go.Proofs.YtebgmdiejgcoiaaGreat
open Go.RowKit
set_option linter.unusedVariables false
def pq (c : Con) (w : Int) (s : Snd) : Snd × List Seg := if c.state = 8 ∨ c.state = 7 then (s, []) else ((pumpC s w (mssO c.o)).1, (pumpC s w (mssO c.o)).2.map (segOf c))
def sentG (c : Con) (w : Int) (s : Snd) : Snd := sentOff s (nextChunk s w (mssO c.o)).1
theorem pump_pq {c : Con} (w : Int) (h : conOk c = true) : (pump c w).1.s = (pq c w c.s).1 ∧ (pump c w).2 = (pq c w c.s).2 := by
  unfold pump pq
  by_cases h8 : c.state = 8
  · simp [h8]
  · by_cases h7 : c.state = 7
    · simp [h7]
    · rw [if_pos (by simp [h, h8, h7]), if_neg (by omega)]; exact ⟨rfl, rfl⟩
theorem pq_cons {c : Con} {w : Int} {s : Snd} {g : Seg} {L : List Seg} (h : (pq c w s).2 = g :: L) :
    (nextChunk s w (mssO c.o)).2 = true ∧ g = segOf c (nextChunk s w (mssO c.o)).1 ∧ (pq c w (sentG c w s)).2 = L ∧ (pq c w s).1 = (pq c w (sentG c w s)).1 := by
  unfold pq at h ⊢
  by_cases hd : c.state = 8 ∨ c.state = 7
  · rw [if_pos hd] at h; simp at h
  · rw [if_neg hd] at h
    simp only [if_neg hd]
    by_cases hn : (nextChunk s w (mssO c.o)).2 = true
    · have e : pumpC s w (mssO c.o) = ((pumpC (sentG c w s) w (mssO c.o)).1, (nextChunk s w (mssO c.o)).1 :: (pumpC (sentG c w s) w (mssO c.o)).2) := by
        rw [pumpC, dif_pos hn]; rfl
      rw [e] at h ⊢
      simp only [List.map_cons, List.cons.injEq] at h
      exact ⟨hn, h.1.symm, h.2, rfl⟩
    · rw [pumpC, dif_neg hn] at h; simp at h
theorem flags_of (b f : Bool) : hasF ((if b then 16 else 24) + (if f then 1 else 0)) 2 = false ∧ hasF ((if b then 16 else 24) + (if f then 1 else 0)) 1 = f ∧ wordOk ((if b then 16 else 24) + (if f then 1 else 0)) 6 = true := by
  cases b <;> cases f <;> decide
theorem tupleOk_w {t : Tup} (h : tupleOk t = true) : wordOk t.port 16 = true ∧ wordOk t.my 16 = true := by
  unfold tupleOk at h; simp only [Bool.and_eq_true] at h; exact ⟨h.1.2, h.2⟩
theorem wordIn32 {x : Int} (h : 0 ≤ x ∧ x ≤ 4294967295) : wordOk x 32 = true := by
  unfold wordOk inB
  have e : (2 : Int) ^ (32 : Int).toNat - 1 = 4294967295 := by decide
  rw [e]; simp; omega
theorem wordIn16 {x : Int} (h : 0 ≤ x ∧ x ≤ 65535) : wordOk x 16 = true := by
  unfold wordOk inB
  have e : (2 : Int) ^ (16 : Int).toNat - 1 = 65535 := by decide
  rw [e]; simp; omega
theorem nextOf_in (s : Snd) : 0 ≤ nextOf s ∧ nextOf s ≤ 4294967295 := by unfold nextOf seqAdd; omega
theorem rnext {c : Con} (h : conOk c = true) : wordOk c.r.next 32 = true := by
  have := (conOk_iff.1 h).1.2.2.1
  unfold receiverOk at this; simp only [Bool.and_eq_true] at this
  exact (rcvPre_iff.1 this.1).1
theorem next_len {s : Snd} {w m : Int} {c : Con} (h : (nextChunk s w m).2 = true) : s.finSent = false ∧ seqAdd (nextOf s) (segLen (segOf c (nextChunk s w m).1)) = nextOf (sentOff s (nextChunk s w m).1) ∧
    flown (sentOff s (nextChunk s w m).1) ≤ w ∧ s.sent ≤ (sentOff s (nextChunk s w m).1).sent ∧ (nextChunk s w m).1.text = s.data.extract s.sent.toNat (sentOff s (nextChunk s w m).1).sent.toNat ∧ (sentOff s (nextChunk s w m).1).sent = s.sent + ((nextChunk s w m).1.text.size : Int) ∧ (nextChunk s w m).1.seq = nextOf s := by
  obtain ⟨hs, hc, hne⟩ := next_ok h
  obtain ⟨e, hok⟩ := sent_next h
  obtain ⟨c0, c1, c2, c3, c4⟩ := chunkN_bd (window := w) (mss := m) hs
  obtain ⟨b0, b1, b2, b3, b4, b5, b6, b7, b8, b9, b10⟩ := senderOk_bd hs
  have ht := chunk_text (window := w) (mss := m) hs
  have hwd : wnd s w = max 0 (max 0 (min w 1000000) - flown s) := rfl
  have hfs : s.finSent = false := by
    cases hq : s.finSent
    · rfl
    · have := b8 hq
      rcases hne with hn | hn
      · omega
      · unfold chunkFin at hn; simp [hq] at hn
  have hf0 : flown s = s.sent := b9 hfs
  have hf1 : flown { s with sent := s.sent + chunkN s w m, finSent := s.finSent || chunkFin s w m } = s.sent + chunkN s w m + (if chunkFin s w m then 1 else 0) := by
    have hb := senderOk_bd hok
    obtain ⟨d0, d1, d2, d3, d4, d5, d6, d7, d8, d9, d10⟩ := hb
    rw [hfs, Bool.false_or] at d8 d9 ⊢
    cases hq : chunkFin s w m
    · have := d9 hq; simp only [hq] at this; rw [this]; simp
    · have := (d8 hq).2.2; simp only [hq] at this; rw [this]; simp
  have hlt : chunkFin s w m = true → chunkN s w m < wnd s w := fun hq => by
    unfold chunkFin at hq; simp only [Bool.and_eq_true, decide_eq_true_eq] at hq; exact hq.2.2.2.2
  refine ⟨hfs, ?_, ?_, ?_, ?_, ?_, by rw [hc]⟩
  · rw [e]; unfold nextOf; rw [hf1]
    rw [hc]; unfold segLen segOf; simp only
    obtain ⟨f1, f2, -⟩ := flags_of (s.data.extract s.sent.toNat (s.sent + chunkN s w m).toNat).toList.isEmpty (chunkFin s w m)
    rw [f1, f2, ht, hf0]
    unfold seqAdd
    cases hq : chunkFin s w m <;> simp <;> omega
  · rw [e, hf1]
    cases hq : chunkFin s w m
    · have : chunkN s w m ≠ 0 := hne.resolve_right (by rw [hq]; simp)
      simp; omega
    · have := hlt hq; simp; omega
  · rw [e]; show s.sent ≤ s.sent + chunkN s w m; omega
  · rw [e, hc]
  · rw [e, hc]; show s.sent + chunkN s w m = _; rw [ht]; omega
structure PI (c : Con) (w : Int) (L : List Seg) (i : Nat) (s : Snd) : Prop where
  ok : senderOk s = true
  rest : L.drop i = (pq c w s).2
  last : (pq c w c.s).1 = (pq c w s).1
  data : s.data = c.s.data
  una : s.una = c.s.una
  from_ : c.s.sent ≤ s.sent
  win : i = 0 ∨ flown s ≤ w
theorem PI.start {c : Con} {w : Int} (h : conOk c = true) : PI c w (pump c w).2 0 c.s :=
  ⟨conOk_s h, by rw [List.drop_zero]; exact (pump_pq w h).2, rfl, rfl, rfl, Int.le_refl _, .inl rfl⟩
theorem segOf_ok {c : Con} {s : Snd} {w m : Int} (hc : conOk c = true) (hs : s.data.size ≤ 48) (h : (nextChunk s w m).2 = true) : segmentOk (segOf c (nextChunk s w m).1) = true := by
  obtain ⟨hq, e, -⟩ := next_ok h
  have ht : (nextChunk s w m).1.text.size ≤ 48 := by rw [e]; show (s.data.extract _ _).size ≤ 48; rw [ByteArray.size_extract]; omega
  have hw := windowOf_bd c.r
  obtain ⟨⟨g1, g2, g3, g4, g5⟩, -, -⟩ := conOk_iff.1 hc
  obtain ⟨p1, p2⟩ := tupleOk_w g1
  unfold segmentOk segOf
  simp only [Bool.and_eq_true, decide_eq_true_eq]
  refine ⟨p2, p1, wordIn16 (by omega), ?_, rnext hc, (flags_of _ _).2.2, by decide, by omega⟩
  rw [e]; exact wordIn32 (nextOf_in s)
theorem PI.step {c : Con} {w : Int} {L : List Seg} {i : Nat} {s : Snd} {g : Seg} (h : PI c w L i s) (hc : conOk c = true) (hg : L[i]? = some g) :
    PI c w L (i + 1) (sentG c w s) ∧ g.seq = nextOf s ∧ g.ack = c.r.next ∧ segmentOk g = true ∧ seqAdd (nextOf s) (segLen g) = nextOf (sentG c w s) ∧ g.body = s.data.extract s.sent.toNat (sentG c w s).sent.toNat ∧
    s.sent ≤ (sentG c w s).sent ∧ (sentG c w s).sent = s.sent + (g.body.size : Int) ∧ nextOf s = seqAdd s.una s.sent := by
  have hd : L.drop i = g :: L.drop (i + 1) := by
    obtain ⟨hl, e⟩ := List.getElem?_eq_some_iff.1 hg
    rw [List.drop_eq_getElem_cons hl, e]
  obtain ⟨hn, hge, hL, h1⟩ := pq_cons (h.rest.symm.trans hd)
  obtain ⟨k1, k2, k3, k4, k5, k6, k7⟩ := next_len (c := c) hn
  obtain ⟨e, hok⟩ := sent_next hn
  have hG : sentG c w s = sentOff s (nextChunk s w (mssO c.o)).1 := rfl
  obtain ⟨b0, b1, b2, b3, b4, b5, b6, b7, b8, b9, b10⟩ := senderOk_bd h.ok
  refine ⟨⟨by rw [hG, e]; exact hok, hL.symm, h.last.trans h1, by rw [hG, e]; exact h.data, by rw [hG, e]; exact h.una, Int.le_trans h.from_ k4, .inr k3⟩, by rw [hge]; exact k7, by rw [hge]; rfl, by rw [hge]; exact segOf_ok hc b2 hn, by rw [hge]; exact k2, by rw [hge]; exact k5, k4, by rw [hge]; exact k6, ?_⟩
  unfold nextOf; rw [b9 k1]
theorem ext_join (a : ByteArray) {i j k : Nat} (h1 : i ≤ j) (h2 : j ≤ k) (h3 : k ≤ a.size) : a.extract i j ++ a.extract j k = a.extract i k := by
  rw [ByteArray.extract_append_extract]; congr 1 <;> omega
theorem PI.more {c : Con} {w : Int} {L : List Seg} {i : Nat} {s : Snd} {g : Seg} {al : ByteArray} (h : PI c w L i s) (hc : conOk c = true) (hg : L[i]? = some g) (ha : al = c.s.data.extract c.s.sent.toNat s.sent.toNat) :
    al ++ g.body = c.s.data.extract c.s.sent.toNat (sentG c w s).sent.toNat := by
  obtain ⟨h1, -, -, -, -, hb, hle, -, -⟩ := h.step hc hg
  have b := senderOk_bd h.ok; have d := senderOk_bd h1.ok
  have hf := h.from_; have b0 := senderOk_bd (conOk_s hc)
  have e1 := h.data; have e2 := h1.data
  rw [ha, hb, e1]
  refine ext_join _ (by omega) (by omega) (by rw [← e2]; omega)
theorem PI.bd {c : Con} {w : Int} {L : List Seg} {i : Nat} {s : Snd} (h : PI c w L i s) (hc : conOk c = true) : 0 ≤ c.s.sent ∧ c.s.sent ≤ s.sent ∧ s.sent ≤ (c.s.data.size : Int) ∧ c.s.data.size ≤ 48 := by
  have b := senderOk_bd h.ok; have b0 := senderOk_bd (conOk_s hc); have e1 := h.data; have hf := h.from_
  rw [e1] at b
  omega
def left (c : Con) : Int := if c.state = 7 then (if c.timer = 0 then 4 else c.timer) else (3 - c.tries) * 3 + (if c.timer = 0 then 3 else c.timer)
def again (c : Con) : Con := { c with s := rewound c.s, timer := c.timer - 1, tries := c.tries + 1 }
end Go.Proofs.YtebgmdiejgcoiaaGreat
/- Plain laws: a receiver stays right, and what it has is only made longer (no program in sight). -/
namespace Go.Proofs.YtebgmdiejgcoiaaGreat
open Go.RowKit
set_option linter.unusedVariables false
end Go.Proofs.YtebgmdiejgcoiaaGreat
/- Plain laws: what is heard, and received (no program in sight). -/
namespace Go.Proofs.YtebgmdiejgcoiaaGreat
open Go.RowKit
set_option linter.unusedVariables false
theorem received_bd {c : Con} {g : Seg} (h1 : c.r.held.length ≤ 1048576) (h2 : ∀ p ∈ c.r.held, p.text.size ≤ 1048576) (h3 : c.r.data.size ≤ 4611686018427387904) : (received c g).1.r.held.length ≤ 1048576 ∧ (received c g).2.1.length ≤ 49 := by
  have hh := (heard_sz (c := c) (g := g) (H := 1048576) (T := 1048576) (D := 4611686018427387904) h1 h2 h3 (by omega) (by omega) (by omega)).1
  unfold received; (repeat' split) <;> first
    | exact ⟨h1, by simp⟩
    | (unfold answered; split
       · exact ⟨hh, by simp⟩
       · have hp := pump_bd (heard c g) (heard c g).window hh
         refine ⟨hp.1, ?_⟩
         dsimp only; split
         · simp
         · exact hp.2)
end Go.Proofs.YtebgmdiejgcoiaaGreat
