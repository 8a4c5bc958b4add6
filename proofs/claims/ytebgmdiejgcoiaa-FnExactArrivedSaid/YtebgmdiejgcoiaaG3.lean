/- Plain definitions, the machine and its rules: what this law's contracts need of them, part 3. -/
import Derived.Test.YtebgmdiejgcoiaaG1
import Derived.Test.YtebgmdiejgcoiaaA3
import Derived.Test.YtebgmdiejgcoiaaA4
import Derived.Test.YtebgmdiejgcoiaaA5
import Derived.Test.YtebgmdiejgcoiaaG2
import Derived.Test.YtebgmdiejgcoiaaYW
/- Contracts: slices of Piece in the laws. -/
namespace Go.Proofs.Ytebgmdiejgcoiaa
open Go.RowKit
attribute [local go_sem] lt_gap le_gap eq_gap gap_eq lt_ones2 lt_ones3 lt_ones4 lt_ones5 lt_ones6 lt_ones7 lt_ones8 lt_gap_1 lt_gap_2 lt_gap_3 lt_gap_4 lt_gap_5 lt_gap_6 size_grow cell?_grow frozen?_grow setCell_grow drew_grow drewN_grow
attribute [local go_sem] boxOf_alloc_at boxOf_alloc_past boxOf_grow boxOf_drew boxOf_drewN isBox_alloc_at isBox_alloc_past isBox_grow isBox_drew isBox_drewN putAt_all putAt setCells_alloc_at setCells_alloc_past setCells_grow setCells_drew
set_option linter.unusedVariables false
set_option linter.unusedSimpArgs false

theorem pceRows_len (l : List Pce) : ∀ r ∈ l.map pceCells, r.length = 2 := fun r h => by obtain ⟨x, -, rfl⟩ := List.mem_map.1 h; rfl
theorem Try.info_Piece : (Try.prog.info? 81).map (fun i => (i.zero, i.size, i.bytes)) = some (some (.agg #[.int .i64 0, .string ⟨#[]⟩]), 2, 24) := by kernel_rfl
set_option maxRecDepth 100000 in
set_option maxHeartbeats 1000000 in
theorem toPieceS_c (v : Value) (l : List Pce) (w : World) (hl : Sl w v 2 (l.map pceCells)) (hn : l.length ≤ 1048576) : Calls Try.prog 39 #[v] w fun e w' => ∃ v', e = .returned v' ∧ Own w' w.heap.size v' 2 (l.map pceCells) ∧ Below w.heap.size w w' := by
  obtain ⟨a, cap, rfl, h2, h3, h4, h5⟩ := hl
  simp only [List.length_map] at h2 ⊢
  unfold maxLen at h3
  have H5 := Lib.hid h5; clear h5
  obtain ⟨i0, hi, hz0, hz1, hz2⟩ := info_parts Try.info_Piece
  have his : (Try.prog.info? 81).map (·.size) = some 2 := by rw [hi]; simp [hz1]
  have HI := Lib.hid hi; clear hi
  go_enter Try.func39, Try.ntmps39
  go_wp2_with ((refine wpList_make_full _ rfl _ _ 26 rfl w.heap.size 81 i0 _ 2 Try.underlying26 HI.out hz0 hz1 .i64 .i64 _ _ l.length (by rfl) (by rfl) (by rfl) (by rfl) (by rw [hz2]; omega) (by unfold maxLen; omega) (Nat.le_refl _) ?_); intro w1 hown hgrow)
  have hF : Fill w1 w.heap.size l.length 2 (l.map pceCells) 0 := Fill.start hown
  have hB : Below w.heap.size w w1 := (Below.refl _ _).grown hgrow (Nat.le_refl _) (fun k h => by simp at h)
  have hsz : w.heap.size < w1.heap.size := by
    rcases hown.2 with ⟨h, _⟩ | ⟨g, cap, cur, h, _, hh, _⟩
    · simp at h
    · simp at h; obtain ⟨rfl, rfl⟩ := h; exact (Array.getElem?_eq_some_iff.1 hh).1
  clear hown hgrow
  go_loopw [4] (fun i wr => ∃ k : Nat, k ≤ l.length ∧ i = .int .i64 k ∧ Below w.heap.size w wr ∧ w.heap.size < wr.heap.size ∧ Hid (Fill wr w.heap.size l.length 2 (l.map pceCells) k)) (fun i _ => l.length - (intOf i).toNat)
  case atStart => exact ⟨0, Nat.zero_le _, rfl, hB, hsz, hF⟩
  case round =>
    clear hF hB hsz
    obtain ⟨k, hk, rfl, hB, hsz, hF⟩ := hrel
    by_cases hlt : k < l.length
    · obtain ⟨x, hx⟩ : ∃ x, l[k]? = some x := ⟨_, List.getElem?_eq_getElem hlt⟩
      obtain ⟨b, off, rfl, hbw, hr⟩ := H5.out k (pceCells x) (by simp [hx])
      have hr := Below.rangeAt hB hbw hr
      have hrow : (l.map pceCells)[k]? = some (pceCells x) := by simp [hx]
      have HX := Lib.hid hrow; clear hx hrow
      obtain ⟨x_off, x_text⟩ := x
      have c0 := hr 0 _ rfl
      have c1 := hr 1 _ rfl
      simp only [Nat.add_zero] at c0
      clear hr
      have hk0 : (0 : Int) ≤ (k : Int) := Int.natCast_nonneg _
      have hk1 : (k : Int) < (l.length : Int) := by omega
      go_wp2_with (go_at_call 80; with_reducible refine (toPiece_c _ _ _).mono ?_; rintro e w2 ⟨rfl, hb2⟩; have hF2 := Lib.hid (hF.out.below hb2 hsz); obtain ⟨⟨o0, ho0⟩, ff0⟩ := Fill.old hF2.out hlt 0 (by omega); obtain ⟨⟨o1, ho1⟩, ff1⟩ := Fill.old hF2.out hlt 1 (by omega); simp only [Nat.add_zero] at ho0 ff0)
      have hst := hF2.out.step (pceRows_len l) HX.out (by simp)
      have hB2 : Below w.heap.size w (w2.setCells w.heap.size (k * 2) (pceCells ⟨x_off, x_text⟩)) := Below.setCells (Nat.le_refl _) _ _ (hB.trans (hb2.mono (by omega)))
      have hs2 : w.heap.size < (w2.setCells w.heap.size (k * 2) (pceCells ⟨x_off, x_text⟩)).heap.size := by rw [size_setCells]; have := hb2.size; omega
      have HS := Lib.hid hst; clear hst
      go_wp2
      go_roundw
      case rel => exact ⟨k + 1, by omega, by go_num, hB2, hs2, HS.out⟩
      case measure => simp [intOf]; omega
    · obtain rfl : k = l.length := by omega
      go_wp2
      refine bodyPost_ret (by simp [results, Try.results39]) rfl ⟨_, rfl, hF.out.own (by simp) (Nat.le_refl _) hsz (by unfold maxLen; omega), hB⟩
set_option maxHeartbeats 1000000 in
theorem eqPieceS_c (v u : Value) (l : List Pce) (w : World) (hl : Sl w v 2 (l.map pceCells)) (hu : Sl w u 2 (l.map pceCells)) : Calls Try.prog 45 #[v, u] w fun e w' => e = .returned (.bool true) ∧ Below w.heap.size w w' := by
  obtain ⟨a, cap, rfl, h2, h3, h4, h5⟩ := hl
  obtain ⟨a', cap', rfl, h2', h3', h4', h5'⟩ := hu
  simp only [List.length_map] at h2 h2' ⊢
  unfold maxLen at h3 h3'
  have H5 := Lib.hid h5; clear h5
  have H5' := Lib.hid h5'; clear h5'
  go_enter Try.func45, Try.ntmps45
  go_wp2
  go_loopw [5] (fun i wr => ∃ k : Nat, k ≤ l.length ∧ i = .int .i64 k ∧ Below w.heap.size w wr) (fun i _ => l.length - (intOf i).toNat)
  case atStart => exact ⟨0, Nat.zero_le _, rfl, Below.refl _ _⟩
  case round =>
    obtain ⟨k, hk, rfl, hB⟩ := hrel
    by_cases hlt : k < l.length
    · obtain ⟨x, hx⟩ : ∃ x, l[k]? = some x := ⟨_, List.getElem?_eq_getElem hlt⟩
      obtain ⟨b, off, rfl, hbw, hr⟩ := H5.out k (pceCells x) (by simp [hx])
      obtain ⟨b', off', rfl, hbw', hr'⟩ := H5'.out k (pceCells x) (by simp [hx])
      have hr := Below.rangeAt hB hbw hr
      have hr' := Below.rangeAt hB hbw' hr'
      have hbz : b < wr.heap.size := by have := hB.size; omega
      have hbz' : b' < wr.heap.size := by have := hB.size; omega
      clear hx
      have hk0 : (0 : Int) ≤ (k : Int) := Int.natCast_nonneg _
      have hk1 : (k : Int) < (l.length : Int) := by omega
      have hBs := hB.size
      obtain ⟨x_off, x_text⟩ := x
      have c0 := hr 0 _ rfl
      have c1 := hr 1 _ rfl
      have d0 := hr' 0 _ rfl
      have d1 := hr' 1 _ rfl
      simp only [Nat.add_zero] at c0 d0
      clear hr hr'
      go_wp2
      go_region_held3 (fun w' => w'.cell? ⟨b, off + k * 2, none⟩ = some (.int .i64 x_off) ∧ w'.cell? ⟨b, off + k * 2 + 1, none⟩ = some (.string x_text) ∧ w'.cell? ⟨b', off' + k * 2, none⟩ = some (.int .i64 x_off) ∧ w'.cell? ⟨b', off' + k * 2 + 1, none⟩ = some (.string x_text))
        (first | exact ⟨(hb2.cell (p := ⟨b, _, none⟩) hbz).trans c0, (hb2.cell (p := ⟨b, _, none⟩) hbz).trans c1, (hb2.cell (p := ⟨b', _, none⟩) hbz').trans d0, (hb2.cell (p := ⟨b', _, none⟩) hbz').trans d1⟩ | go_keep)
        (first | (go_at_call 83; refine (eqPiece_c x_off x_text _).mono ?_; rintro e w2 ⟨rfl, hb2⟩))
      go_wp2
      go_roundw
      case rel => exact ⟨k + 1, by omega, by go_num, by (repeat' (first | (with_reducible exact Below.refl _ _) | (with_reducible refine Below.alloc ?_ ?_ _) | (with_reducible refine belowGrow ?_ ?_ _ _) | (with_reducible refine Below.setCell ?_ ?_ _) | (with_reducible refine Below.drew ?_) | (with_reducible refine bdrewN ?_ _) | (with_reducible assumption) | (with_reducible refine bstep ?_ (by assumption) ?_) | (simp only [World.size_alloc, World.size_setCell, World.size_drew, World.heap_drewN, size_grow]; done) | (simp only [World.size_alloc, World.size_setCell, World.size_drew, World.heap_drewN, size_grow]; omega) | omega))⟩
      case measure => simp [intOf]; omega
    · obtain rfl : k = l.length := by omega
      go_wp2
      refine bodyPost_ret (v := .bool true) (by simp [results, Try.results45]) rfl ⟨rfl, hB⟩
end Go.Proofs.Ytebgmdiejgcoiaa
/- Contracts (C1). -/
namespace Go.Proofs.Ytebgmdiejgcoiaa
open Go.RowKit
attribute [local go_sem] lt_gap le_gap eq_gap gap_eq lt_ones2 lt_ones3 lt_ones4 lt_ones5 lt_ones6 lt_ones7 lt_ones8 lt_gap_1 lt_gap_2 lt_gap_3 lt_gap_4 lt_gap_5 lt_gap_6 size_grow cell?_grow frozen?_grow setCell_grow drew_grow drewN_grow
attribute [local go_sem] boxOf_alloc_at boxOf_alloc_past boxOf_grow boxOf_drew boxOf_drewN isBox_alloc_at isBox_alloc_past isBox_grow isBox_drew isBox_drewN putAt_all putAt setCells_alloc_at setCells_alloc_past setCells_grow setCells_drew
attribute [local go_sem ↓] pload_implConn pstore_implConn pload_lawsConn pstore_lawsConn pload_implReceiver pstore_implReceiver pload_lawsReceiver pstore_lawsReceiver pload_implSegment pstore_implSegment pload_lawsSegment pstore_lawsSegment
attribute [local go_sem] Value.oneCell' load_implConn store_implConn load_lawsConn store_lawsConn load_implReceiver store_implReceiver load_lawsReceiver store_lawsReceiver load_implSegment store_implSegment load_lawsSegment store_lawsSegment
set_option linter.unusedVariables false
set_option linter.unusedSimpArgs false

theorem szPiece_c (x_off : Int) (x_text : ByteArray) (left : Int) (w : World) (h0 : 0 ≤ left) (h1 : left ≤ 1048576) (hm : x_text.size ≤ maxLen) : Calls Try.prog 78 #[.agg #[.int .i64 x_off, .string x_text], .int .i64 left] w fun e w' => e = .returned (.int .i64 (if left < x_text.size then -1 else left - x_text.size)) ∧ Below w.heap.size w w' := by
  unfold maxLen at hm
  by_cases h : left < x_text.size
  all_goals
    go_enter Try.func78, Try.ntmps78
    go_wp2
    refine bodyPost_ret (v := .int .i64 (if left < x_text.size then -1 else left - x_text.size)) (by first | (simp [results, Try.results78, *]; done) | (simp [results, Try.results78, *]; omega)) rfl ⟨by first | rfl | (split <;> first | rfl | (exfalso; omega)), ?_⟩
    (repeat' (first | (with_reducible exact Below.refl _ _) | (with_reducible refine Below.alloc ?_ ?_ _) | (with_reducible refine belowGrow ?_ ?_ _ _) | (with_reducible refine Below.setCell ?_ ?_ _) | (with_reducible refine Below.drew ?_) | (with_reducible refine bdrewN ?_ _) | (with_reducible assumption) | (with_reducible refine bstep ?_ (by assumption) ?_) | (simp only [World.size_alloc, World.size_setCell, World.size_drew, World.heap_drewN, size_grow]; done) | (simp only [World.size_alloc, World.size_setCell, World.size_drew, World.heap_drewN, size_grow]; omega) | omega))
def PcFit (left r : Int) (l : List Pce) : Prop := r = -1 ∨ (0 ≤ r ∧ r ≤ left ∧ l.length ≤ left ∧ ∀ p ∈ l, p.text.size ≤ left)
theorem szPieceS_c (v : Value) (l : List Pce) (left : Int) (w : World) (hl : Sl w v 2 (l.map pceCells)) (hm : ∀ p ∈ l, p.text.size ≤ maxLen) (h0 : 0 ≤ left) (h1 : left ≤ 1048576) : Calls Try.prog 31 #[v, .int .i64 left] w fun e w' => ∃ r : Int, e = .returned (.int .i64 r) ∧ PcFit left r l ∧ Below w.heap.size w w' := by
  obtain ⟨a, cap, rfl, h2, h3, h4, h5⟩ := hl
  simp only [List.length_map] at h2 ⊢
  unfold maxLen at h3
  have H5 := Lib.hid h5; clear h5
  have HM := Lib.hid hm; clear hm
  by_cases h : left < l.length
  · go_enter Try.func31, Try.ntmps31
    go_wp2
    refine bodyPost_ret (v := .int .i64 (-1)) (by simp [results, Try.results31]) rfl ⟨_, rfl, .inl rfl, ?_⟩
    (repeat' (first | (with_reducible exact Below.refl _ _) | (with_reducible refine Below.alloc ?_ ?_ _) | (with_reducible refine belowGrow ?_ ?_ _ _) | (with_reducible refine Below.setCell ?_ ?_ _) | (with_reducible refine Below.drew ?_) | (with_reducible refine bdrewN ?_ _) | (with_reducible assumption) | (with_reducible refine bstep ?_ (by assumption) ?_) | (simp only [World.size_alloc, World.size_setCell, World.size_drew, World.heap_drewN, size_grow]; done) | (simp only [World.size_alloc, World.size_setCell, World.size_drew, World.heap_drewN, size_grow]; omega) | omega))
  · have hn : (l.length : Int) ≤ left := by omega
    have hl0 : (0 : Int) ≤ left - l.length := by omega
    go_enter Try.func31, Try.ntmps31
    go_wp2
    go_loopw [1, 5] (fun c i wr => ∃ (k : Nat) (r : Int), k ≤ l.length ∧ i = .int .i64 k ∧ c = .int .i64 r ∧ 0 ≤ r ∧ r ≤ left ∧ Hid (∀ (j : Nat) (p : Pce), j < k → l[j]? = some p → p.text.size ≤ left) ∧ Below w.heap.size w wr) (fun _ i _ => l.length - (intOf i).toNat)
    case atStart => exact ⟨0, left - l.length, Nat.zero_le _, rfl, rfl, by omega, by omega, fun j p hj => by omega, Below.refl _ _⟩
    case round =>
      obtain ⟨k, r, hk, rfl, rfl, hr0, hr1, hno, hB⟩ := hrel
      by_cases hlt : k < l.length
      · obtain ⟨x, hx⟩ : ∃ x, l[k]? = some x := ⟨_, List.getElem?_eq_getElem hlt⟩
        obtain ⟨b, off, rfl, hbw, hr⟩ := H5.out k (pceCells x) (by simp [hx])
        have hr := Below.rangeAt hB hbw hr
        have hxm : x.text.size ≤ maxLen := HM.out x (List.mem_of_getElem? hx)
        have HX := Lib.hid hx; clear hx
        obtain ⟨x_off, x_text⟩ := x
        have c0 := hr 0 _ rfl
        have c1 := hr 1 _ rfl
        simp only [Nat.add_zero] at c0
        clear hr
        have hk0 : (0 : Int) ≤ (k : Int) := Int.natCast_nonneg _
        have hk1 : (k : Int) < (l.length : Int) := by omega
        have hBs := hB.size
        by_cases hq : r < x_text.size
        · go_wp2_with (go_at_call 78; with_reducible refine (szPiece_c _ _ _ _ hr0 (by omega) hxm).mono ?_; rintro e w2 ⟨rfl, hb2⟩; rw [if_pos hq])
          refine bodyPost_ret (v := .int .i64 (-1)) (by simp [results, Try.results31]) rfl ⟨_, rfl, .inl rfl, bstep hB hb2 hBs⟩
        · have hr2 : (0 : Int) ≤ r - x_text.size := by omega
          go_wp2_with (go_at_call 78; with_reducible refine (szPiece_c _ _ _ _ hr0 (by omega) hxm).mono ?_; rintro e w2 ⟨rfl, hb2⟩; rw [if_neg (by omega)])
          go_roundw
          case rel => exact ⟨k + 1, r - x_text.size, by omega, by go_num, rfl, hr2, by omega, fun j p hj hp => by
            rcases Nat.lt_succ_iff_lt_or_eq.1 hj with h | rfl
            · exact hno j p h hp
            · have := HX.out.symm.trans hp; simp only [Option.some.injEq] at this; subst this; simp only; omega, bstep hB hb2 hBs⟩
          case measure => simp [intOf]; omega
      · go_wp2
        refine bodyPost_ret (v := .int .i64 r) (by simp [results, Try.results31]) rfl ⟨_, rfl, .inr ⟨hr0, hr1, hn, fun p hp => by
          obtain ⟨j, hj, rfl⟩ := List.mem_iff_getElem.1 hp
          exact hno j _ (by omega) (List.getElem?_eq_getElem hj)⟩, hB⟩
theorem szReceiver_c (x_next : Int) (x_data : ByteArray) (x_held : List Pce) (x_held_v : Value) (x_fin : Int) (x_done : Bool) (left : Int) (w : World) (hl : Sl w x_held_v 2 (x_held.map pceCells)) (hm : ∀ p ∈ x_held, p.text.size ≤ maxLen) (h0 : 0 ≤ left) (h1 : left ≤ 1048576) (hd : x_data.size ≤ maxLen) : Calls Try.prog 6 #[.agg #[.int .i64 x_next, .string x_data, x_held_v, .int .i64 x_fin, .bool x_done], .int .i64 left] w fun e w' => ∃ r : Int, e = .returned (.int .i64 r) ∧ (r = -1 ∨ (0 ≤ r ∧ r ≤ left ∧ x_data.size ≤ left ∧ PcFit left r x_held)) ∧ Below w.heap.size w w' := by
  unfold maxLen at hd
  have HL := Lib.hid hl; have HM := Lib.hid hm; clear hl hm
  by_cases h : left < x_data.size
  · go_enter Try.func6, Try.ntmps6
    go_wp2
    refine bodyPost_ret (v := .int .i64 (-1)) (by simp [results, Try.results6]) rfl ⟨_, rfl, .inl rfl, ?_⟩
    (repeat' (first | (with_reducible exact Below.refl _ _) | (with_reducible refine Below.alloc ?_ ?_ _) | (with_reducible refine belowGrow ?_ ?_ _ _) | (with_reducible refine Below.setCell ?_ ?_ _) | (with_reducible refine Below.drew ?_) | (with_reducible refine bdrewN ?_ _) | (with_reducible assumption) | (with_reducible refine bstep ?_ (by assumption) ?_) | (simp only [World.size_alloc, World.size_setCell, World.size_drew, World.heap_drewN, size_grow]; done) | (simp only [World.size_alloc, World.size_setCell, World.size_drew, World.heap_drewN, size_grow]; omega) | omega))
  · have hl0 : (0 : Int) ≤ left - x_data.size := by omega
    go_enter Try.func6, Try.ntmps6
    go_wp2_with fail
    refine (szPieceS_c _ x_held _ _ (HL.out.kept (B := w.heap.size) (by (repeat' (first | (with_reducible exact Below.refl _ _) | (with_reducible refine Below.alloc ?_ ?_ _) | (with_reducible refine belowGrow ?_ ?_ _ _) | (with_reducible refine Below.setCell ?_ ?_ _) | (with_reducible refine Below.drew ?_) | (with_reducible refine bdrewN ?_ _) | (with_reducible assumption) | (with_reducible refine bstep ?_ (by assumption) ?_) | (simp only [World.size_alloc, World.size_setCell, World.size_drew, World.heap_drewN, size_grow]; done) | (simp only [World.size_alloc, World.size_setCell, World.size_drew, World.heap_drewN, size_grow]; omega) | omega))) (Nat.le_refl _)) HM.out hl0 (by omega)).mono ?_
    rintro e w1 ⟨r, rfl, hr, hb1⟩
    obtain ⟨d1, os1, rfl⟩ := below_grow hb1; clear hb1
    rcases hr with rfl | ⟨hr0, hr1, hr2, hr3⟩
    · go_wp2
      refine bodyPost_ret (v := .int .i64 (-1)) (by simp [results, Try.results6]) rfl ⟨_, rfl, .inl rfl, ?_⟩
      (repeat' (first | (with_reducible exact Below.refl _ _) | (with_reducible refine Below.alloc ?_ ?_ _) | (with_reducible refine belowGrow ?_ ?_ _ _) | (with_reducible refine Below.setCell ?_ ?_ _) | (with_reducible refine Below.drew ?_) | (with_reducible refine bdrewN ?_ _) | (with_reducible assumption) | (with_reducible refine bstep ?_ (by assumption) ?_) | (simp only [World.size_alloc, World.size_setCell, World.size_drew, World.heap_drewN, size_grow]; done) | (simp only [World.size_alloc, World.size_setCell, World.size_drew, World.heap_drewN, size_grow]; omega) | omega))
    · have HR := Lib.hid hr3; clear hr3
      go_wp2
      refine bodyPost_ret (v := .int .i64 r) (by simp [results, Try.results6]) rfl ⟨_, rfl, .inr ⟨hr0, by omega, by omega, .inr ⟨hr0, by omega, by omega, fun p hp => by have := HR.out p hp; omega⟩⟩, ?_⟩
      (repeat' (first | (with_reducible exact Below.refl _ _) | (with_reducible refine Below.alloc ?_ ?_ _) | (with_reducible refine belowGrow ?_ ?_ _ _) | (with_reducible refine Below.setCell ?_ ?_ _) | (with_reducible refine Below.drew ?_) | (with_reducible refine bdrewN ?_ _) | (with_reducible assumption) | (with_reducible refine bstep ?_ (by assumption) ?_) | (simp only [World.size_alloc, World.size_setCell, World.size_drew, World.heap_drewN, size_grow]; done) | (simp only [World.size_alloc, World.size_setCell, World.size_drew, World.heap_drewN, size_grow]; omega) | omega))
set_option maxHeartbeats 1000000 in
theorem toReceiver_c (x_next : Int) (x_data : ByteArray) (x_held : List Pce) (x_held_v : Value) (x_fin : Int) (x_done : Bool) (w : World) (hl : Sl w x_held_v 2 (x_held.map pceCells)) (hn : x_held.length ≤ 1048576) : Calls Try.prog 8 #[.agg #[.int .i64 x_next, .string x_data, x_held_v, .int .i64 x_fin, .bool x_done]] w fun e w' => ∃ v' : Value, e = .returned (.agg #[.int .i64 x_next, .string x_data, v', .int .i64 x_fin, .bool x_done]) ∧ Own w' w.heap.size v' 2 (x_held.map pceCells) ∧ Below w.heap.size w w' := by
  have HL := Lib.hid hl; clear hl
  go_enter Try.func8, Try.ntmps8
  go_wp2_with fail
  refine (toPieceS_c _ x_held _ (HL.out.kept (B := w.heap.size) (by (repeat' (first | (with_reducible exact Below.refl _ _) | (with_reducible refine Below.alloc ?_ ?_ _) | (with_reducible refine belowGrow ?_ ?_ _ _) | (with_reducible refine Below.setCell ?_ ?_ _) | (with_reducible refine Below.drew ?_) | (with_reducible refine bdrewN ?_ _) | (with_reducible assumption) | (with_reducible refine bstep ?_ (by assumption) ?_) | (simp only [World.size_alloc, World.size_setCell, World.size_drew, World.heap_drewN, size_grow]; done) | (simp only [World.size_alloc, World.size_setCell, World.size_drew, World.heap_drewN, size_grow]; omega) | omega))) (Nat.le_refl _)) hn).mono ?_
  rintro e w1 ⟨v1, rfl, hO1, hb1⟩
  obtain ⟨a1, cap1, rfl⟩ := hO1.form
  obtain ⟨d1, os1, rfl⟩ := below_grow hb1; clear hb1
  go_wp2
  refine bodyPost_ret (v := .agg #[.int .i64 x_next, .string x_data, .slice a1 _ cap1, .int .i64 x_fin, .bool x_done]) (by simp [results, Try.results8, go_sem, *]) rfl ⟨_, rfl, (hO1.mid (by (repeat' (first | (with_reducible exact Mid.refl _ _ _) | (with_reducible refine Mid.swap ?_) | (with_reducible refine Mid.grow ?_ ?_ _ _) | (with_reducible refine Mid.alloc ?_ ?_ _) | (with_reducible refine Mid.setCell ?_ ?_ _) | (with_reducible refine Mid.drew ?_) | (with_reducible refine Mid.drewN ?_ _) | (with_reducible refine Mid.below ?_ (by assumption) ?_) | (simp only [World.size_alloc, World.size_setCell, World.size_drew, World.heap_drewN, size_grow]; done) | (simp only [World.size_alloc, World.size_setCell, World.size_drew, World.heap_drewN, size_grow]; omega) | omega)))).lower (by simp only [World.size_alloc, World.size_setCell, World.size_drew, World.heap_drewN, size_grow]; omega), ?_⟩
  (repeat' (first | (with_reducible exact Below.refl _ _) | (with_reducible refine Below.alloc ?_ ?_ _) | (with_reducible refine belowGrow ?_ ?_ _ _) | (with_reducible refine Below.setCell ?_ ?_ _) | (with_reducible refine Below.drew ?_) | (with_reducible refine bdrewN ?_ _) | (with_reducible assumption) | (with_reducible refine bstep ?_ (by assumption) ?_) | (simp only [World.size_alloc, World.size_setCell, World.size_drew, World.heap_drewN, size_grow]; done) | (simp only [World.size_alloc, World.size_setCell, World.size_drew, World.heap_drewN, size_grow]; omega) | omega))
theorem eqReceiver_c (x_next : Int) (x_data : ByteArray) (x_held : List Pce) (x_held_v : Value) (x_fin : Int) (x_done : Bool) (u : Value) (w : World) (hl : Sl w x_held_v 2 (x_held.map pceCells)) (hu : Sl w u 2 (x_held.map pceCells)) : Calls Try.prog 10 #[.agg #[.int .i64 x_next, .string x_data, x_held_v, .int .i64 x_fin, .bool x_done], .agg #[.int .i64 x_next, .string x_data, u, .int .i64 x_fin, .bool x_done]] w fun e w' => e = .returned (.bool true) ∧ Below w.heap.size w w' := by
  have HL := Lib.hid hl; have HU := Lib.hid hu; clear hl hu
  go_enter Try.func10, Try.ntmps10
  go_wp2_with fail
  refine (eqPieceS_c _ _ x_held _ (HL.out.kept (B := w.heap.size) (by (repeat' (first | (with_reducible exact Below.refl _ _) | (with_reducible refine Below.alloc ?_ ?_ _) | (with_reducible refine belowGrow ?_ ?_ _ _) | (with_reducible refine Below.setCell ?_ ?_ _) | (with_reducible refine Below.drew ?_) | (with_reducible refine bdrewN ?_ _) | (with_reducible assumption) | (with_reducible refine bstep ?_ (by assumption) ?_) | (simp only [World.size_alloc, World.size_setCell, World.size_drew, World.heap_drewN, size_grow]; done) | (simp only [World.size_alloc, World.size_setCell, World.size_drew, World.heap_drewN, size_grow]; omega) | omega))) (Nat.le_refl _)) (HU.out.kept (B := w.heap.size) (by (repeat' (first | (with_reducible exact Below.refl _ _) | (with_reducible refine Below.alloc ?_ ?_ _) | (with_reducible refine belowGrow ?_ ?_ _ _) | (with_reducible refine Below.setCell ?_ ?_ _) | (with_reducible refine Below.drew ?_) | (with_reducible refine bdrewN ?_ _) | (with_reducible assumption) | (with_reducible refine bstep ?_ (by assumption) ?_) | (simp only [World.size_alloc, World.size_setCell, World.size_drew, World.heap_drewN, size_grow]; done) | (simp only [World.size_alloc, World.size_setCell, World.size_drew, World.heap_drewN, size_grow]; omega) | omega))) (Nat.le_refl _))).mono ?_
  rintro e w1 ⟨rfl, hb1⟩; obtain ⟨d1, os1, rfl⟩ := below_grow hb1; clear hb1
  go_wp2
  refine bodyPost_ret (v := .bool true) (by simp [results, Try.results10]) rfl ⟨rfl, ?_⟩
  (repeat' (first | (with_reducible exact Below.refl _ _) | (with_reducible refine Below.alloc ?_ ?_ _) | (with_reducible refine belowGrow ?_ ?_ _ _) | (with_reducible refine Below.setCell ?_ ?_ _) | (with_reducible refine Below.drew ?_) | (with_reducible refine bdrewN ?_ _) | (with_reducible assumption) | (with_reducible refine bstep ?_ (by assumption) ?_) | (simp only [World.size_alloc, World.size_setCell, World.size_drew, World.heap_drewN, size_grow]; done) | (simp only [World.size_alloc, World.size_setCell, World.size_drew, World.heap_drewN, size_grow]; omega) | omega))
end Go.Proofs.Ytebgmdiejgcoiaa
/- Plain definitions: marks (no program in sight). -/
namespace Go.Proofs.Ytebgmdiejgcoiaa
open Go.RowKit
theorem bstr_one (z : Int) : (bstr [z]).size = 1 := rfl
def markLoop (k : Int) (out : ByteArray) : ByteArray :=
  if h : 0 < k then markLoop (k.tdiv 10) (bstr [IntKind.u8.wrap (48 + k.tmod 10)] ++ out) else out
termination_by k.toNat
decreasing_by
  rw [Int.tdiv_eq_ediv_of_nonneg (by omega)]; omega
def markText (k : Int) : ByteArray := if k ≤ 0 then ⟨#[109, 48]⟩ else ⟨#[109]⟩ ++ markLoop k ⟨#[]⟩
theorem mark_dec {z : Int} (hz : 0 < z) : (z.tdiv 10).toNat < z.toNat := by rw [Int.tdiv_eq_ediv_of_nonneg (by omega)]; omega
theorem markLoop_step {k z : Int} {o out : ByteArray} (hz : 0 < z) (h : markLoop k o = markLoop z out) : markLoop k o = markLoop (z.tdiv 10) (bstr [IntKind.u8.wrap (48 + z.tmod 10)] ++ out) := by
  rw [h, markLoop, dif_pos hz]
theorem markLoop_end {k z : Int} {o out : ByteArray} (hz : ¬ 0 < z) (h : markLoop k o = markLoop z out) : markLoop k o = out := by
  rw [h, markLoop, dif_neg hz]
theorem mark_room {k z x : Int} {out : ByteArray} (hz : 0 < z) (h : out.size + z.toNat ≤ k.toNat) : (bstr [x] ++ out).size + (z.tdiv 10).toNat ≤ k.toNat := by
  have := mark_dec hz
  rw [ByteArray.size_append, bstr_one]; omega
theorem wrap_tdiv {k z : Int} {out : ByteArray} (hz : 0 < z) (h : out.size + z.toNat ≤ k.toNat) (hk : k ≤ 4611686018427387904) : IntKind.i64.wrap (z.tdiv 10) = z.tdiv 10 := by
  rw [Int.tdiv_eq_ediv_of_nonneg (by omega)]; exact wrap_id (by omega) (by omega)
theorem wrap_tmod {z : Int} (hz : 0 < z) : IntKind.i64.wrap (48 + z.tmod 10) = 48 + z.tmod 10 := by
  rw [Int.tmod_eq_emod_of_nonneg (by omega)]; exact wrap_id (by omega) (by omega)
theorem mark_sz {k z x : Int} {out : ByteArray} (hz : 0 < z) (h : out.size + z.toNat ≤ k.toNat) (hk : k ≤ 4611686018427387904) : (bstr [x]).size + out.size ≤ 9223372036854775807 := by
  rw [bstr_one]; omega
theorem mark_sz0 {k z : Int} {out : ByteArray} (h : out.size + z.toNat ≤ k.toNat) (hk : k ≤ 4611686018427387904) : (⟨#[109]⟩ : ByteArray).size + out.size ≤ 9223372036854775807 := by
  have : (⟨#[109]⟩ : ByteArray).size = 1 := rfl
  rw [this]; omega
def mkP (b : Int) : Pce := ⟨b, markText (b + 1)⟩
def marks {α : Type} (mk : Int → α) (c k : Int) (n : Nat) : List α := (List.range n).map fun (i : Nat) => mk (k + c * (i : Int))
theorem marks_len {α : Type} (mk : Int → α) (c k : Int) (n : Nat) : (marks mk c k n).length = n := by simp [marks]
theorem marks_get {α : Type} {mk : Int → α} {c k : Int} {n i : Nat} {x : α} (h : (marks mk c k n)[i]? = some x) : x = mk (k + c * (i : Int)) := by
  have hi : i < n := by have := (List.getElem?_eq_some_iff.1 h).1; simpa [marks] using this
  simp [marks, hi] at h; exact h.symm
theorem mark_same {α : Type} {f : α → List Value} {mk : Int → α} {c k : Int} {l : List α} {i : Nat} {x : α} (h : l[i]? = some x) : ((marks mk c k i ++ l.drop i).map f) = ((marks mk c k i ++ l.drop i).map f).set i (f x) := by
  have hg : ((marks mk c k i ++ l.drop i).map f)[i]? = some (f x) := by
    rw [List.getElem?_map, List.getElem?_append_right (by rw [marks_len]; exact Nat.le_refl _), marks_len, Nat.sub_self, List.getElem?_drop]
    simp [h]
  obtain ⟨hlt, e⟩ := List.getElem?_eq_some_iff.1 hg
  rw [← e]; exact (List.set_getElem_self hlt).symm
theorem mark_next {α : Type} {f : α → List Value} {mk : Int → α} {c k : Int} {l : List α} {i : Nat} (h : i < l.length) : ((marks mk c k i ++ l.drop i).map f).set i (f (mk (k + c * (i : Int)))) = ((marks mk c k (i + 1) ++ l.drop (i + 1)).map f) := by
  rw [← List.map_set]
  congr 1
  rw [List.set_append_right _ _ (by rw [marks_len]; exact Nat.le_refl _), marks_len, Nat.sub_self]
  have hd : l.drop i = l[i] :: l.drop (i + 1) := List.drop_eq_getElem_cons h
  rw [hd, List.set_cons_zero]
  simp [marks, List.range_succ]
theorem mark_ln {α : Type} {f : α → List Value} {mk : Int → α} {c k : Int} {l : List α} {i : Nat} (h : i ≤ l.length) : ((marks mk c k i ++ l.drop i).map f).length = l.length := by
  simp [marks_len]; omega
theorem wk_fact0 {t : List (Nat × AV)} {b : List Box} {r : List (List Value)} {f g : Fact} {fs : List Fact} (h : f = g) : Wk ⟨t, b, r, f :: fs⟩ ⟨t, b, r, g :: fs⟩ := h ▸ Wk.refl _
theorem xw_fact0 {P : Program} {n : Nat} {w0 : World} {QX : Exit → St → Prop} {t : List (Nat × AV)} {b : List Box} {r : List (List Value)} {f g : Fact} {fs : List Fact} {c : Code} (h : f = g) (h1 : XW P n w0 QX c ⟨t, b, r, g :: fs⟩) : XW P n w0 QX c ⟨t, b, r, f :: fs⟩ := h ▸ h1
theorem marks_ne {α : Type} {f : α → List Value} {mk : Int → α} {c k : Int} {l : List α} (h : (marks mk c k l.length).map f ≠ []) : l.map f ≠ [] := fun e => by
  have : l = [] := by simpa using e
  subst this; exact h rfl
theorem xcm_own {P : Program} {w0 : World} {fs : List Fact} {f : FuncId} {args : List Value} {B K : Nat} {v r : Value} {rs rs' : List (List Value)} (hne : rs' ≠ [] → rs ≠ [])
    (h : ∀ w, w0.heap.size ≤ w.heap.size → (∀ g ∈ fs, g.p w) → Calls P f args.toArray w fun e w' => e = .returned r ∧ Own w' B v K rs' ∧ Chgd (ownF B v K rs).blk w w') :
    XCM P w0 fs (ownF B v K rs).blk f args (α := Unit) (fun _ => r) (fun _ => [ownF B v K rs']) := fun w hw hf => (h w hw hf).mono fun e w' ⟨he, ho, hc⟩ =>
  ⟨(), he, fun g hg => by
    have e : g = ownF B v K rs' := (by simpa using hg)
    subst e; exact ⟨ho, fun b hb => .inl ⟨hne hb.1, hb.2⟩⟩, Apart.one _, hc⟩
theorem apart_fr {W : World} {B K : Nat} {v : Value} {rs : List (List Value)} : Apart [ownF B v K rs, frF W (ownF B v K rs).blk] := (Apart.one _).cons fun x hx b hb hxb => by
  have e : x = frF W (ownF B v K rs).blk := (by simpa using hx)
  subst e; exact hxb.2 hb
end Go.Proofs.Ytebgmdiejgcoiaa
/- Plain definitions: the pump (no program in sight). -/
namespace Go.Proofs.Ytebgmdiejgcoiaa
open Go.RowKit
theorem ext_size (a : ByteArray) (i j : Nat) (h : j ≤ a.size) : (a.extract i j).size = j - i := by rw [ByteArray.size_extract]; omega
theorem chunkN_bd {s : Snd} {window mss : Int} (h : senderOk s = true) : 0 ≤ chunkN s window mss ∧ s.sent + chunkN s window mss ≤ s.data.size ∧ chunkN s window mss ≤ wnd s window ∧ 0 ≤ wnd s window ∧ wnd s window ≤ 1000000 := by
  obtain ⟨b0, b1, b2, b3, b4, b5, b6, b7, b8, b9, b10⟩ := senderOk_bd h
  unfold chunkN wnd; omega
theorem chunk_text {s : Snd} {window mss : Int} (h : senderOk s = true) : (s.data.extract s.sent.toNat (s.sent + chunkN s window mss).toNat).size = (chunkN s window mss).toNat := by
  obtain ⟨b0, b1, b2, b3, b4, b5, b6, b7, b8, b9, b10⟩ := senderOk_bd h
  obtain ⟨c0, c1, c2, c3, c4⟩ := chunkN_bd (window := window) (mss := mss) h
  rw [ext_size _ _ _ (by omega)]; omega
def mssO (o : Opt) : Int := if o.mss = 0 then 536 else max 1 (min o.mss 1460)
def meas (s : Snd) : Nat := (s.data.size - s.sent.toNat) + (if s.finSent then 0 else 1)
theorem next_ok {s : Snd} {window mss : Int} (h : (nextChunk s window mss).2 = true) : senderOk s = true ∧ (nextChunk s window mss).1 = ⟨nextOf s, s.data.extract s.sent.toNat (s.sent + chunkN s window mss).toNat, chunkFin s window mss⟩ ∧ (chunkN s window mss ≠ 0 ∨ chunkFin s window mss = true) := by
  unfold nextChunk at h ⊢
  split at h
  · rename_i hs
    split at h
    · simp at h
    · rename_i hc
      refine ⟨hs, by rw [if_pos hs, if_neg hc], ?_⟩
      simp only [Bool.and_eq_true, decide_eq_true_eq, Bool.not_eq_true', not_and, Bool.not_eq_false] at hc
      by_cases h0 : chunkN s window mss = 0
      · exact .inr (hc h0)
      · exact .inl h0
  · simp at h
theorem sent_next {s : Snd} {window mss : Int} (h : (nextChunk s window mss).2 = true) : sentOff s (nextChunk s window mss).1 = { s with sent := s.sent + chunkN s window mss, finSent := s.finSent || chunkFin s window mss } ∧ senderOk { s with sent := s.sent + chunkN s window mss, finSent := s.finSent || chunkFin s window mss } = true := by
  obtain ⟨hs, hc, hne⟩ := next_ok h
  have hx := chunkN_bd (window := window) (mss := mss) hs
  have ht := chunk_text (window := window) (mss := mss) hs
  have hb := senderOk_bd hs
  obtain ⟨c0, c1, c2, c3, c4⟩ := hx
  obtain ⟨b0, b1, b2, b3, b4, b5, b6, b7, b8, b9, b10⟩ := hb
  have e : sentS s (nextChunk s window mss).1 = { s with sent := s.sent + chunkN s window mss, finSent := s.finSent || chunkFin s window mss } := by
    rw [hc]; unfold sentS; simp only [ht]
    rw [show s.sent + ((chunkN s window mss).toNat : Int) = s.sent + chunkN s window mss by omega, wrap_id (by omega) (by omega)]
  have hs2 := hs
  unfold senderOk at hs2
  simp only [Bool.and_eq_true, decide_eq_true_eq, Bool.or_eq_true, Bool.not_eq_true'] at hs2
  have hok : senderOk { s with sent := s.sent + chunkN s window mss, finSent := s.finSent || chunkFin s window mss } = true := by
    unfold senderOk
    simp only [Bool.and_eq_true, decide_eq_true_eq, Bool.or_eq_true, Bool.not_eq_true', inB]
    obtain ⟨⟨⟨⟨g1, g2⟩, g3⟩, g4⟩, g5⟩ := hs2
    refine ⟨⟨⟨⟨g1, g2⟩, by omega, by omega⟩, ?_⟩, ?_⟩
    · cases hf : chunkFin s window mss
      · cases hq : s.finSent
        · exact .inl rfl
        · right
          have := b8 hq
          exact ⟨this.1, by omega⟩
      · right
        unfold chunkFin at hf
        simp only [Bool.and_eq_true, decide_eq_true_eq, Bool.not_eq_true'] at hf
        exact ⟨hf.1, hf.2.2.2.1⟩
    · rcases g5 with g5 | g5
      · exact .inl g5
      · cases hd : s.done
        · exact .inl rfl
        · right
          refine ⟨⟨g5.1.1, ?_⟩, g5.2⟩
          have : chunkFin s window mss = false := by unfold chunkFin; simp [hd]
          rw [this, g5.1.2]; rfl
  refine ⟨?_, hok⟩
  unfold sentOff
  rw [e, hs, hok]
  have : ((nextChunk s window mss).1.fin && s.done) = false := by
    rw [hc]; simp only
    cases hd : s.done
    · simp
    · unfold chunkFin; simp [hd]
  rw [this]; rfl
theorem meas_next {s : Snd} {window mss : Int} (h : (nextChunk s window mss).2 = true) : meas (sentOff s (nextChunk s window mss).1) < meas s := by
  obtain ⟨e, -⟩ := sent_next h
  obtain ⟨hs, hc, hne⟩ := next_ok h
  obtain ⟨c0, c1, c2, c3, c4⟩ := chunkN_bd (window := window) (mss := mss) hs
  obtain ⟨b0, b1, b2, b3, b4, b5, b6, b7, b8, b9, b10⟩ := senderOk_bd hs
  rw [e]; unfold meas; simp only
  by_cases h0 : chunkN s window mss = 0
  · have hf : chunkFin s window mss = true := hne.resolve_left (fun h => h h0)
    have hq : s.finSent = false := by unfold chunkFin at hf; simp at hf; exact hf.2.1
    simp [h0, hf, hq]
  · cases hq : s.finSent <;> cases hf : chunkFin s window mss <;> simp <;> omega
def pumpC (s : Snd) (window mss : Int) : Snd × List Chk :=
  if _h : (nextChunk s window mss).2 = true then ((pumpC (sentOff s (nextChunk s window mss).1) window mss).1, (nextChunk s window mss).1 :: (pumpC (sentOff s (nextChunk s window mss).1) window mss).2) else (s, [])
termination_by meas s
decreasing_by all_goals exact meas_next (by assumption)
def segOf (c : Con) (ch : Chk) : Seg := ⟨c.t.my, c.t.port, ch.seq, c.r.next, (if ch.text.toList.isEmpty then 16 else 24) + (if ch.fin then 1 else 0), windowOf c.r, ⟨0, -1, false, false, 0, 0⟩, ch.text⟩
def tmr {α : Type} (c : Con) (l : List α) : Int := if l.isEmpty then c.timer else if c.timer = 0 then 3 else c.timer
def pump (c : Con) (window : Int) : Con × List Seg :=
  if conOk c && (!decide (c.state = 8) && !decide (c.state = 7)) then
    ({ c with s := (pumpC c.s window (mssO c.o)).1, timer := tmr c ((pumpC c.s window (mssO c.o)).2.map (segOf c)) }, (pumpC c.s window (mssO c.o)).2.map (segOf c))
  else (c, [])
end Go.Proofs.Ytebgmdiejgcoiaa
/- Plain definitions: calls and ticks (no program in sight). -/
namespace Go.Proofs.Ytebgmdiejgcoiaa
open Go.RowKit
def write (c : Con) (text : ByteArray) : Con × Int × List Seg :=
  if conOk c && (decide (c.state = 1) || decide (c.state = 4)) then ((pump { c with s := (queued c.s text).1 } c.window).1, (queued c.s text).2, (pump { c with s := (queued c.s text).1 } c.window).2) else (c, 0, [])
end Go.Proofs.Ytebgmdiejgcoiaa
/- Plain definitions: what is heard, and received (no program in sight). -/
namespace Go.Proofs.Ytebgmdiejgcoiaa
open Go.RowKit
def heardMid (c : Con) (g : Seg) : Con :=
  if (acked c.s g.ack).2 then
    (if (¬ (acked c.s g.ack).1.una = c.s.una ∨ flown (acked c.s g.ack).1 = 0) ∧ ¬ c.state = 7 then
      { c with s := (acked c.s g.ack).1, window := farW g.window c.o, most := max c.most (farW g.window c.o), tries := 0, timer := if 0 < flown (acked c.s g.ack).1 then 3 else 0 }
     else { c with s := (acked c.s g.ack).1, window := farW g.window c.o, most := max c.most (farW g.window c.o) })
  else c
def heardR (c : Con) (g : Seg) : Rcv := if inB c.state 1 3 then arrived c.r g.seq g.body (hasF g.flags 1) else c.r
def heard (c : Con) (g : Seg) : Con := if verdict c g = 5 then turned { heardMid c g with r := heardR c g } else c
def answered (c : Con) (g : Seg) : Con × List Seg :=
  if c.state = 8 then (c, []) else ((pump c c.window).1, if 0 < segLen g ∧ (pump c c.window).2.length = 0 then [ackOf c] else (pump c c.window).2)
def received (c : Con) (g : Seg) : Con × List Seg × Int :=
  if verdict c g = 1 then (c, [], 1)
  else if verdict c g = 2 then ({ c with state := 8, timer := 0, tries := 0 }, [], 2)
  else if verdict c g = 3 then (c, [ackOf c], 3)
  else if verdict c g = 4 then (if c.state = 7 ∧ hasF g.flags 1 = true then { c with timer := 4 } else c, [ackOf c], 4)
  else ((answered (heard c g) g).1, (answered (heard c g) g).2, 5)
theorem pcs_bd : ∀ (l : List Int) (acc : List Pce) (j : Nat), (∀ p ∈ acc, 0 ≤ p.off ∧ p.off + (p.text.size : Int) ≤ (j : Int)) → ∀ p ∈ pcs acc j l, 0 ≤ p.off ∧ p.off + (p.text.size : Int) ≤ ((j + l.length : Nat) : Int)
  | [], acc, j, h, p, hp => by simpa using h p hp
  | x :: l, acc, j, h, p, hp => by
    rw [pcs] at hp
    have := pcs_bd l _ (j + 1) (fun q hq => by
      split at hq
      · have := h q hq; omega
      · have := addByte_bd h q hq; omega) p hp
    rw [List.length_cons]; omega
theorem arrived_sz {r : Rcv} {seq : Int} {t : ByteArray} {fin : Bool} {H T D : Nat} (h1 : r.held.length ≤ H) (h2 : ∀ p ∈ r.held, p.text.size ≤ T) (h3 : r.data.size ≤ D) (hH : 3 ≤ H) (hT : 33 ≤ T) (hD : 65 ≤ D) :
    (arrived r seq t fin).held.length ≤ H ∧ (∀ p ∈ (arrived r seq t fin).held, p.text.size ≤ T) ∧ (arrived r seq t fin).data.size ≤ D := by
  unfold arrived
  split
  · rename_i hok
    simp only [Bool.and_eq_true] at hok
    have hr := rok_facts hok.1
    have hl := allIn_len r seq t
    have hb : ∀ p ∈ pcs [] 0 ((allIn r seq t).drop (filled (allIn r seq t))), p.text.size ≤ T := fun p hp => by
      have := pcs_bd _ [] 0 (by simp) p hp
      rw [List.length_drop, hl] at this; omega
    have hd : (r.data ++ bstr ((allIn r seq t).take (filled (allIn r seq t)))).size ≤ D := by
      rw [ByteArray.size_append, bstr_len, List.length_take, hl]; omega
    split
    · exact ⟨h1, h2, h3⟩
    · rename_i hn
      split
      · exact ⟨by dsimp only; omega, hb, hd⟩
      · exact ⟨by dsimp only; omega, hb, hd⟩
  · exact ⟨h1, h2, h3⟩
end Go.Proofs.Ytebgmdiejgcoiaa
/- Plain definitions: the slots as two arrays, and what is kept of them (no program in sight). -/
namespace Go.Proofs.Ytebgmdiejgcoiaa
open Go.RowKit
set_option linter.unusedVariables false
def hvOf (W : Nat) (sl : List Int) : List Bool := (sl.take W).map fun x => decide (0 ≤ x)
def dtOf (W : Nat) (sl : List Int) : List Int := (sl.take W).map fun x => max x 0
def stOne (sl : List Int) (off : Nat) (x : Int) : List Int := if 0 ≤ slotAt sl off then sl else sl.set off x
theorem hvOf_len {W : Nat} {sl : List Int} (h : W ≤ sl.length) : (hvOf W sl).length = W := by unfold hvOf; simp; omega
theorem dtOf_len {W : Nat} {sl : List Int} (h : W ≤ sl.length) : (dtOf W sl).length = W := by unfold dtOf; simp; omega
theorem hvOf_get {W off : Nat} {sl : List Int} {x : Int} (hw : off < W) (h : sl[off]? = some x) : (hvOf W sl)[off]? = some (decide (0 ≤ x)) := by
  unfold hvOf; rw [List.getElem?_map, List.getElem?_take_of_lt hw, h]; rfl
theorem dtOf_get {W off : Nat} {sl : List Int} {x : Int} (hw : off < W) (h : sl[off]? = some x) : (dtOf W sl)[off]? = some (max x 0) := by
  unfold dtOf; rw [List.getElem?_map, List.getElem?_take_of_lt hw, h]; rfl
theorem hvOf_set {W off : Nat} {sl : List Int} {x : Int} (hx : 0 ≤ x) : (hvOf W sl).set off true = hvOf W (sl.set off x) := by
  unfold hvOf; rw [List.take_set, List.map_set, show decide (0 ≤ x) = true from decide_eq_true hx]
theorem dtOf_set {W off : Nat} {sl : List Int} {x : Int} (hx : 0 ≤ x) : (dtOf W sl).set off x = dtOf W (sl.set off x) := by
  unfold dtOf; rw [List.take_set, List.map_set, show max x 0 = x by omega]
theorem hvOf_start {W : Nat} (h : W ≤ 33) : hvOf W (List.replicate 33 (-1)) = List.replicate W false := by
  unfold hvOf; rw [List.take_replicate, List.map_replicate, Nat.min_eq_left h]; rfl
theorem dtOf_start {W : Nat} (h : W ≤ 33) : dtOf W (List.replicate 33 (-1)) = List.replicate W 0 := by
  unfold dtOf; rw [List.take_replicate, List.map_replicate, Nat.min_eq_left h]; rfl
theorem stOne_len (sl : List Int) (off : Nat) (x : Int) : (stOne sl off x).length = sl.length := by unfold stOne; split <;> simp
theorem stOne_free {sl : List Int} {off : Nat} {x z : Int} (h : sl[off]? = some z) (hz : z < 0) : stOne sl off x = sl.set off x := by
  unfold stOne; rw [slotAt_of h, if_neg (by omega)]
theorem stOne_full {sl : List Int} {off : Nat} {x z : Int} (h : sl[off]? = some z) (hz : 0 ≤ z) : stOne sl off x = sl := by
  unfold stOne; rw [slotAt_of h, if_pos hz]
theorem stOne_far {sl : List Int} {off j : Nat} {x : Int} (h : off ≠ j) : (stOne sl off x)[j]? = sl[j]? := by
  unfold stOne; split
  · rfl
  · rw [List.getElem?_set_ne h]
def arrF (B gh gd bh bd T1 T2 e1 e2 W : Nat) (sl : List Int) : Fact := allF [cellF B gh T1 [.slice (some ⟨bh, 0, none⟩) W W], cellF B gd T2 [.slice (some ⟨bd, 0, none⟩) W W], rowF B e1 1 (.slice (some ⟨bh, 0, none⟩) W W) ((hvOf W sl).map boolRow), rowF B e2 1 (.slice (some ⟨bd, 0, none⟩) W W) ((dtOf W sl).map byteRow)]
theorem arrF_lo {B gh gd bh bd T1 T2 e1 e2 W : Nat} {sl : List Int} {w : World} (h : (arrF B gh gd bh bd T1 T2 e1 e2 W sl).p w) {b : Nat} (hb : (arrF B gh gd bh bd T1 T2 e1 e2 W sl).blk b) : B ≤ b := by
  obtain ⟨g, hg, hq⟩ := hb
  have hp := h.1 g hg
  simp only [List.mem_cons, List.not_mem_nil, or_false] at hg
  rcases hg with rfl | rfl | rfl | rfl
  · have e : b = gh := hq
    subst e; exact hp.1
  · have e : b = gd := hq
    subst e; exact hp.1
  · exact rowF_lo hp hq
  · exact rowF_lo hp hq
theorem arrF_blk {B gh gd bh bd T1 T2 e1 e2 W : Nat} {sl sl' : List Int} {b : Nat} (hb : (arrF B gh gd bh bd T1 T2 e1 e2 W sl').blk b) : (arrF B gh gd bh bd T1 T2 e1 e2 W sl).blk b := by
  obtain ⟨g, hg, hq⟩ := hb
  simp only [List.mem_cons, List.not_mem_nil, or_false] at hg
  rcases hg with rfl | rfl | rfl | rfl
  · exact ⟨_, by simp, hq⟩
  · exact ⟨_, .tail _ (.head _), hq⟩
  · exact ⟨_, .tail _ (.tail _ (.head _)), hq⟩
  · exact ⟨_, .tail _ (.tail _ (.tail _ (.head _))), hq⟩
theorem xcm_arr {P : Program} {w0 : World} {fs : List Fact} {f : FuncId} {args : List Value} {v : Value} {B gh gd bh bd T1 T2 e1 e2 W : Nat} {sl sl' : List Int}
    (h : ∀ w, w0.heap.size ≤ w.heap.size → (∀ g ∈ fs, g.p w) → Calls P f args.toArray w fun e w' => e = .returned v ∧ (arrF B gh gd bh bd T1 T2 e1 e2 W sl').p w' ∧ Chgd (arrF B gh gd bh bd T1 T2 e1 e2 W sl).blk w w') :
    XCM P w0 fs (arrF B gh gd bh bd T1 T2 e1 e2 W sl).blk f args (α := Unit) (fun _ => v) (fun _ => [arrF B gh gd bh bd T1 T2 e1 e2 W sl']) := fun w hw hf => (h w hw hf).mono fun e w' ⟨he, hp, hc⟩ =>
  ⟨(), he, fun g hg => by
    obtain rfl : g = arrF B gh gd bh bd T1 T2 e1 e2 W sl' := by simpa using hg
    exact ⟨hp, fun b hb => .inl (arrF_blk hb)⟩, Apart.one _, hc⟩
theorem apart_frS {gs : List Fact} {W : World} {S : Nat → Prop} (h : Apart gs) (hS : ∀ g ∈ gs, ∀ b, g.blk b → S b) : Apart (gs ++ [frF W S]) :=
  h.append (Apart.one _) fun f hf g hg b hb hgb => by
    obtain rfl : g = frF W S := by simpa using hg
    exact hgb.2 (hS f hf b hb)
theorem own4 {f1 f2 f3 f4 : Fact} (h1 : f1.own = true) (h2 : f2.own = true) (h3 : f3.own = true) (h4 : f4.own = true) : ∀ g ∈ [f1, f2, f3, f4], g.own = true := fun g hg => by
  simp only [List.mem_cons, List.not_mem_nil, or_false] at hg
  rcases hg with rfl | rfl | rfl | rfl <;> assumption
theorem rok_held {r : Rcv} (h : receiverOk r = true) : heldOk (if r.fin = -1 then windowOf r else r.fin) 0 r.held = true := by
  unfold receiverOk at h; simp only [Bool.and_eq_true] at h; exact h.2.1
theorem held_step {m e : Int} {l : List Pce} {i : Nat} {p : Pce} (h : heldOk m e (l.drop i) = true) (hx : l[i]? = some p) : e < p.off ∧ p.off + (p.text.size : Int) ≤ m ∧ heldOk m (p.off + (p.text.size : Int)) (l.drop (i + 1)) = true := by
  obtain ⟨hl, e1⟩ := List.getElem?_eq_some_iff.1 hx
  rw [List.drop_eq_getElem_cons hl, e1] at h
  simp only [heldOk, Bool.and_eq_true, decide_eq_true_eq] at h
  exact ⟨h.2.1, by omega, h.2.2.2⟩
theorem text_yes {r : Rcv} {seq : Int} {t : ByteArray} {l : List Int} {k : Nat} (h1 : ((offN r seq k : Nat) : Int) < windowOf r) (h2 : r.fin < 0 ∨ ((offN r seq k : Nat) : Int) < r.fin) : textStep r seq t l k = stOne l (offN r seq k) (byteAt t k) := by
  rw [textStep_eq]; unfold stOne
  by_cases h : 0 ≤ slotAt l (offN r seq k)
  · rw [if_neg (by omega), if_pos h]
  · rw [if_pos ⟨h1, h2, by omega⟩, if_neg h]
theorem text_no {r : Rcv} {seq : Int} {t : ByteArray} {l : List Int} {k : Nat} (h : ¬ (((offN r seq k : Nat) : Int) < windowOf r ∧ (r.fin < 0 ∨ ((offN r seq k : Nat) : Int) < r.fin))) : textStep r seq t l k = l := by
  rw [textStep_eq, if_neg (by rintro ⟨h1, h2, -⟩; exact h ⟨h1, h2⟩)]
def hasB (l : List Bool) (b : Bool) : Bool := l.any (b == ·)
theorem hasB_free {W p : Nat} {sl : List Int} (hbe : ∀ j, W ≤ j → j < 33 → sl[j]? = some (-1)) (hl : sl.length = 33) (hW : W ≤ 32) (hp : p ≤ W) : hasB (((hvOf W sl).drop p).take (W - p)) true = !freeFrom sl p := by
  have e0 : ((hvOf W sl).drop p).take (W - p) = (hvOf W sl).drop p := List.take_of_length_le (by rw [List.length_drop, hvOf_len (by omega)]; omega)
  rw [e0]
  cases hf : freeFrom sl p with
  | true =>
    unfold freeFrom at hf; rw [List.all_eq_true] at hf
    unfold hasB
    rw [Bool.not_true, ← Bool.not_eq_true, List.any_eq_true]
    rintro ⟨x, hx, hq⟩
    unfold hvOf at hx
    rw [← List.map_drop] at hx
    obtain ⟨y, hy, rfl⟩ := List.mem_map.1 hx
    have h1 := hf y (by rw [List.drop_take] at hy; exact List.mem_of_mem_take hy)
    simp at h1 hq; omega
  | false =>
    unfold freeFrom at hf
    rw [Bool.not_false]
    have : ¬ ∀ x ∈ sl.drop p, decide (x < 0) = true := fun h => by rw [List.all_eq_true.2 h] at hf; cases hf
    simp only [Classical.not_forall, decide_eq_true_eq] at this
    obtain ⟨x, hx, hn⟩ := this
    obtain ⟨i, hi⟩ := List.getElem?_of_mem hx
    rw [List.getElem?_drop] at hi
    have hlt : p + i < W := by
      rcases Nat.lt_or_ge (p + i) W with h | h
      · exact h
      · have h3 := (List.getElem?_eq_some_iff.1 hi).1
        rw [hbe _ h (by omega)] at hi
        simp only [Option.some.injEq] at hi; omega
    unfold hasB; rw [List.any_eq_true]
    refine ⟨true, List.mem_of_getElem? (i := i) ?_, rfl⟩
    rw [List.getElem?_drop, hvOf_get hlt hi, show decide (0 ≤ x) = true from decide_eq_true (by omega)]
theorem dt_part {W i n : Nat} {sl : List Int} (h : i + n ≤ W) (hp : ∀ x ∈ (sl.drop i).take n, 0 ≤ x) : ((dtOf W sl).drop i).take n = (sl.drop i).take n := by
  unfold dtOf
  rw [← List.map_drop, ← List.map_take, List.drop_take, List.take_take, Nat.min_eq_left (by omega)]
  conv => rhs; rw [← List.map_id ((sl.drop i).take n)]
  exact List.map_congr_left fun x hx => by have := hp x hx; simp only [id]; omega
theorem pcs_neg (acc : List Pce) : ∀ (l : List Int) (j : Nat), (∀ x ∈ l, x < 0) → pcs acc j l = acc
  | [], _, _ => rfl
  | x :: l, j, h => by rw [pcs, if_pos (h x (by simp))]; exact pcs_neg acc l _ fun y hy => h y (by simp [hy])
theorem beyond_neg {W : Nat} {sl : List Int} (hbe : ∀ j, W ≤ j → j < 33 → sl[j]? = some (-1)) (hl : sl.length = 33) : ∀ x ∈ sl.drop W, x < 0 := fun x hx => by
  obtain ⟨i, hi⟩ := List.getElem?_of_mem hx
  rw [List.getElem?_drop] at hi
  have h3 := (List.getElem?_eq_some_iff.1 hi).1
  rw [hbe _ (by omega) (by omega)] at hi
  simp only [Option.some.injEq] at hi; omega
theorem pcs_piece {sl : List Int} {out : List Pce} {n i j : Nat} (hni : n ≤ i) (hij : i < j) (hj : j ≤ sl.length) (hrun : ∀ x ∈ (sl.drop i).take (j - i), 0 ≤ x) (ht : ¬ touches out (i - n)) :
    pcs out (i - n) (sl.drop i) = pcs (out ++ [⟨((i - n : Nat) : Int), bstr ((sl.drop i).take (j - i))⟩]) (j - n) (sl.drop j) := by
  have hsplit : sl.drop i = (sl.drop i).take (j - i) ++ sl.drop j := by
    conv => lhs; rw [← List.take_append_drop (j - i) (sl.drop i)]
    rw [List.drop_drop]; congr 2; omega
  have hlen : ((sl.drop i).take (j - i)).length = j - i := by rw [List.length_take, List.length_drop]; omega
  cases hc : (sl.drop i).take (j - i) with
  | nil => rw [hc] at hlen; simp at hlen; omega
  | cons x run =>
    rw [hc] at hrun hlen
    conv => lhs; rw [hsplit, hc]
    rw [pcs_begin out (i - n) x run (sl.drop j) (hrun x (by simp)) (fun y hy => hrun y (by simp [hy])) ht]
    congr 1
    simp only [List.length_cons] at hlen ⊢; omega
theorem bd_more {out : List Pce} {a c : Nat} {t : ByteArray} (h : ∀ p ∈ out, 0 ≤ p.off ∧ p.off + (p.text.size : Int) ≤ (a : Int)) (ha : a ≤ c) (ht : a + t.size ≤ c) : ∀ p ∈ out ++ [(⟨(a : Int), t⟩ : Pce)], 0 ≤ p.off ∧ p.off + (p.text.size : Int) ≤ (c : Int) := fun p hp => by
  rcases List.mem_append.1 hp with hp | hp
  · have := h p hp; omega
  · rw [List.mem_singleton] at hp; subst hp; dsimp only; omega
theorem touch_skip {out : List Pce} {m : Nat} (hbd : ∀ p ∈ out, 0 ≤ p.off ∧ p.off + (p.text.size : Int) ≤ (m : Int)) : ¬ touches out (m + 1) := by
  rintro ⟨p, hp, he⟩
  have := hbd p (List.mem_of_getLast? hp); omega
theorem run_more {sl : List Int} {i j : Nat} {x : Int} (hij : i ≤ j) (h : ∀ x ∈ (sl.drop i).take (j - i), 0 ≤ x) (hx : sl[j]? = some x) (h0 : 0 ≤ x) : ∀ x ∈ (sl.drop i).take (j + 1 - i), 0 ≤ x := fun y hy => by
  have e : (sl.drop i).take (j + 1 - i) = (sl.drop i).take (j - i) ++ [x] := by
    rw [show j + 1 - i = (j - i) + 1 by omega, List.take_add_one, List.getElem?_drop, show i + (j - i) = j by omega, hx]; rfl
  rw [e] at hy
  rcases List.mem_append.1 hy with hy | hy
  · exact h y hy
  · rw [List.mem_singleton] at hy; omega
theorem dt_head {W n : Nat} {sl : List Int} (h : n ≤ W) (hp : ∀ x ∈ sl.take n, 0 ≤ x) : bstr (((dtOf W sl).drop 0).take (n - 0)) = bstr (sl.take n) := by
  have := dt_part (W := W) (i := 0) (n := n) (sl := sl) (by omega) (by simpa using hp)
  rw [Nat.sub_zero, this]; simp
def idxL (b : Bool) : List Bool → Nat → Int
  | [], _ => -1
  | x :: xs, k => if b = x then (k : Int) else idxL b xs (k + 1)
theorem idx_has (b : Bool) : ∀ (l : List Bool) (k : Nat), decide (idxL b l k ≥ 0) = hasB l b
  | [], k => rfl
  | x :: xs, k => by
    by_cases h : b = x
    · have e : idxL b (x :: xs) k = k := by rw [idxL, if_pos h]
      rw [show decide (idxL b (x :: xs) k ≥ 0) = true from decide_eq_true (by omega)]
      unfold hasB; simp [h]
    · have e : idxL b (x :: xs) k = idxL b xs (k + 1) := by rw [idxL, if_neg h]
      have h2 := idx_has b xs (k + 1)
      unfold hasB at h2 ⊢
      rw [List.any_cons, ← h2, show (b == x) = false from by simpa using h, Bool.false_or]
      simp only [e]
end Go.Proofs.Ytebgmdiejgcoiaa
