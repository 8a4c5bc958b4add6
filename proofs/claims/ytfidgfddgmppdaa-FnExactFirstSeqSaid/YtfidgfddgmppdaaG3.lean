/- Plain definitions, the machine and its rules: what this law's contracts need of them, part 3. -/
import Derived.Test.YtfidgfddgmppdaaG1
import Derived.Test.YtfidgfddgmppdaaA3
import Derived.Test.YtfidgfddgmppdaaA4
import Derived.Test.YtfidgfddgmppdaaA5
import Derived.Test.YtfidgfddgmppdaaA2
import Derived.Deep.QuietTactic
import Derived.BigQuiet
import Derived.Deep.RegionHeld3
import Derived.Test.YtfidgfddgmppdaaYW
import Derived.Test.YtfidgfddgmppdaaG2
/- Contracts: slices of Piece in the laws. -/
namespace Go.Proofs.Ytfidgfddgmppdaa
section
open Go.RowKit
attribute [local go_sem] cm cl ck cj bj bY bi bl bf bg bc ba bh bd bn bo bm a8 cell?_grow frozen?_grow aU bw b0
attribute [local go_sem] ae al b5 aC aK af ak aA aD aJ bv ct ap ar aa ab
set_option linter.unusedVariables false
set_option linter.unusedSimpArgs false
theorem pceRows_len (l : List Pce) : ∀ r ∈ l.map pC, r.length = 2 := fun r h => by obtain ⟨x, -, rfl⟩ := List.mem_map.1 h; rfl
theorem Try.info_Piece : (Try.prog.info? 161).map (fun i => (i.zero, i.size, i.bytes)) = some (some (.agg #[.int .i64 0, .string ⟨#[]⟩]), 2, 24) := by kernel_rfl
set_option maxRecDepth 100000 in
set_option maxHeartbeats 1000000 in
theorem toPieceS_c (v : Value) (l : List Pce) (w : World) (hl : Sl w v 2 (l.map pC)) (hn : l.length ≤ 1048576) : Calls Try.prog 142 #[v] w fun e w' => ∃ v', e = .returned v' ∧ Own w' w.heap.size v' 2 (l.map pC) ∧ Below w.heap.size w w' := by
  obtain ⟨a, cap, rfl, h2, h3, h4, h5⟩ := hl
  simp only [List.length_map] at h2 ⊢
  unfold maxLen at h3
  have H5 := Lib.hid h5; clear h5
  obtain ⟨i0, hi, hz0, hz1, hz2⟩ := info_parts Try.info_Piece
  have his : (Try.prog.info? 161).map (·.size) = some 2 := by rw [hi]; simp [hz1]
  have HI := Lib.hid hi; clear hi
  go_enter Try.func142, Try.ntmps142
  go_wp2_with ((refine wpList_make_full _ rfl _ _ 104 rfl w.heap.size 161 i0 _ 2 Try.underlying104 HI.out hz0 hz1 .i64 .i64 _ _ l.length (by rfl) (by rfl) (by rfl) (by rfl) (by rw [hz2]; omega) (by unfold maxLen; omega) (Nat.le_refl _) ?_); intro w1 hown hgrow)
  have hF : Fill w1 w.heap.size l.length 2 (l.map pC) 0 := Fill.start hown
  have hB : Below w.heap.size w w1 := (Below.refl _ _).grown hgrow (Nat.le_refl _) (fun k h => by simp at h)
  have hsz : w.heap.size < w1.heap.size := by
    rcases hown.2 with ⟨h, _⟩ | ⟨g, cap, cur, h, _, hh, _⟩
    · simp at h
    · simp at h; obtain ⟨rfl, rfl⟩ := h; exact (Array.getElem?_eq_some_iff.1 hh).1
  clear hown hgrow
  go_loopw [4] (fun i wr => ∃ k : Nat, k ≤ l.length ∧ i = .int .i64 k ∧ Below w.heap.size w wr ∧ w.heap.size < wr.heap.size ∧ Hid (Fill wr w.heap.size l.length 2 (l.map pC) k)) (fun i _ => l.length - (intOf i).toNat)
  case atStart => exact ⟨0, Nat.zero_le _, rfl, hB, hsz, hF⟩
  case round =>
    clear hF hB hsz
    obtain ⟨k, hk, rfl, hB, hsz, hF⟩ := hrel
    by_cases hlt : k < l.length
    · obtain ⟨x, hx⟩ : ∃ x, l[k]? = some x := ⟨_, List.getElem?_eq_getElem hlt⟩
      obtain ⟨b, off, rfl, hbw, hr⟩ := H5.out k (pC x) (by simp [hx])
      have hr := Below.rangeAt hB hbw hr
      have hrow : (l.map pC)[k]? = some (pC x) := by simp [hx]
      have HX := Lib.hid hrow; clear hx hrow
      obtain ⟨x_off, x_text⟩ := x
      have c0 := hr 0 _ rfl
      have c1 := hr 1 _ rfl
      simp only [Nat.add_zero] at c0
      clear hr
      have hk0 : (0 : Int) ≤ (k : Int) := Int.natCast_nonneg _
      have hk1 : (k : Int) < (l.length : Int) := by omega
      go_wp2_with (go_at_call 147; with_reducible refine (toPiece_c _ _ _).mono ?_; rintro e w2 ⟨rfl, hb2⟩; have hF2 := Lib.hid (hF.out.below hb2 hsz); obtain ⟨⟨o0, ho0⟩, ff0⟩ := Fill.old hF2.out hlt 0 (by omega); obtain ⟨⟨o1, ho1⟩, ff1⟩ := Fill.old hF2.out hlt 1 (by omega); simp only [Nat.add_zero] at ho0 ff0)
      have hst := hF2.out.step (pceRows_len l) HX.out (by simp)
      have hB2 : Below w.heap.size w (w2.setCells w.heap.size (k * 2) (pC ⟨x_off, x_text⟩)) := Below.setCells (Nat.le_refl _) _ _ (hB.trans (hb2.mono (by omega)))
      have hs2 : w.heap.size < (w2.setCells w.heap.size (k * 2) (pC ⟨x_off, x_text⟩)).heap.size := by rw [cq]; have := hb2.size; omega
      have HS := Lib.hid hst; clear hst
      go_wp2
      go_roundw
      case rel => exact ⟨k + 1, by omega, by go_num, hB2, hs2, HS.out⟩
      case measure => simp [intOf]; omega
    · obtain rfl : k = l.length := by omega
      go_wp2
      refine bodyPost_ret (by simp [results, Try.results142]) rfl ⟨_, rfl, hF.out.own (by simp) (Nat.le_refl _) hsz (by unfold maxLen; omega), hB⟩
set_option maxHeartbeats 1000000 in
theorem eqPieceS_c (v u : Value) (l : List Pce) (w : World) (hl : Sl w v 2 (l.map pC)) (hu : Sl w u 2 (l.map pC)) : Calls Try.prog 143 #[v, u] w fun e w' => e = .returned (.bool true) ∧ Below w.heap.size w w' := by
  obtain ⟨a, cap, rfl, h2, h3, h4, h5⟩ := hl
  obtain ⟨a', cap', rfl, h2', h3', h4', h5'⟩ := hu
  simp only [List.length_map] at h2 h2' ⊢
  unfold maxLen at h3 h3'
  have H5 := Lib.hid h5; clear h5
  have H5' := Lib.hid h5'; clear h5'
  go_enter Try.func143, Try.ntmps143
  go_wp2
  go_loopw [5] (fun i wr => ∃ k : Nat, k ≤ l.length ∧ i = .int .i64 k ∧ Below w.heap.size w wr) (fun i _ => l.length - (intOf i).toNat)
  case atStart => exact ⟨0, Nat.zero_le _, rfl, Below.refl _ _⟩
  case round =>
    obtain ⟨k, hk, rfl, hB⟩ := hrel
    by_cases hlt : k < l.length
    · obtain ⟨x, hx⟩ : ∃ x, l[k]? = some x := ⟨_, List.getElem?_eq_getElem hlt⟩
      obtain ⟨b, off, rfl, hbw, hr⟩ := H5.out k (pC x) (by simp [hx])
      obtain ⟨b', off', rfl, hbw', hr'⟩ := H5'.out k (pC x) (by simp [hx])
      have hr := Below.rangeAt hB hbw hr
      have hr' := Below.rangeAt hB hbw' hr'
      have hbz : b < wr.heap.size := by have := hB.size; omega
      have hbz' : b' < wr.heap.size := by have := hB.size; omega
      clear hx
      have hk0 : (0 : Int) ≤ (k : Int) := Int.natCast_nonneg _
      have hk1 : (k : Int) < (l.length : Int) := by omega
      have hBs := hB.size
      obtain ⟨x_off, x_text⟩ := x
      have c0 := hr 0 _ rfl
      have c1 := hr 1 _ rfl
      have d0 := hr' 0 _ rfl
      have d1 := hr' 1 _ rfl
      simp only [Nat.add_zero] at c0 d0
      clear hr hr'
      go_wp2
      go_region_held3 (fun w' => w'.cell? ⟨b, off + k * 2, none⟩ = some (.int .i64 x_off) ∧ w'.cell? ⟨b, off + k * 2 + 1, none⟩ = some (.string x_text) ∧ w'.cell? ⟨b', off' + k * 2, none⟩ = some (.int .i64 x_off) ∧ w'.cell? ⟨b', off' + k * 2 + 1, none⟩ = some (.string x_text))
        (first | exact ⟨(hb2.cell (p := ⟨b, _, none⟩) hbz).trans c0, (hb2.cell (p := ⟨b, _, none⟩) hbz).trans c1, (hb2.cell (p := ⟨b', _, none⟩) hbz').trans d0, (hb2.cell (p := ⟨b', _, none⟩) hbz').trans d1⟩ | go_keep)
        (first | (go_at_call 148; refine (eqPiece_c x_off x_text _).mono ?_; rintro e w2 ⟨rfl, hb2⟩))
      go_wp2
      go_roundw
      case rel => exact ⟨k + 1, by omega, by go_num, by (repeat' (first | (with_reducible exact Below.refl _ _) | (with_reducible refine Below.alloc ?_ ?_ _) | (with_reducible refine au ?_ ?_ _ _) | (with_reducible refine Below.setCell ?_ ?_ _) | (with_reducible refine Below.drew ?_) | (with_reducible refine aT ?_ _) | (with_reducible assumption) | (with_reducible refine aF ?_ (by assumption) ?_) | (simp only [World.size_alloc, World.size_setCell, World.size_drew, World.heap_drewN, a8]; done) | (simp only [World.size_alloc, World.size_setCell, World.size_drew, World.heap_drewN, a8]; omega) | omega))⟩
      case measure => simp [intOf]; omega
    · obtain rfl : k = l.length := by omega
      go_wp2
      refine bodyPost_ret (v := .bool true) (by simp [results, Try.results143]) rfl ⟨rfl, hB⟩
end
/- Contracts (C1). -/
section
open Go.RowKit
attribute [local go_sem] cm cl ck cj bj bY bi bl bf bg bc ba bh bd bn bo bm a8 cell?_grow frozen?_grow aU bw b0
attribute [local go_sem] ae al b5 aC aK af ak aA aD aJ bv ct ap ar aa ab
attribute [local go_sem ↓] pload_implConn pstore_implConn pload_lawsConn pstore_lawsConn pload_implReceiver pstore_implReceiver pload_lawsReceiver pstore_lawsReceiver pload_implSegment pstore_implSegment pload_lawsSegment pstore_lawsSegment pload_implTable pstore_implTable pload_lawsTable pstore_lawsTable
attribute [local go_sem] Value.oneCell' load_implConn store_implConn load_lawsConn store_lawsConn load_implReceiver store_implReceiver load_lawsReceiver store_lawsReceiver load_implSegment store_implSegment load_lawsSegment store_lawsSegment load_implTable store_implTable load_lawsTable store_lawsTable
set_option linter.unusedVariables false
set_option linter.unusedSimpArgs false
theorem szPiece_c (x_off : Int) (x_text : ByteArray) (left : Int) (w : World) (h0 : 0 ≤ left) (h1 : left ≤ 1048576) (hm : x_text.size ≤ maxLen) : Calls Try.prog 146 #[.agg #[.int .i64 x_off, .string x_text], .int .i64 left] w fun e w' => e = .returned (.int .i64 (if left < x_text.size then -1 else left - x_text.size)) ∧ Below w.heap.size w w' := by
  unfold maxLen at hm
  by_cases h : left < x_text.size
  all_goals
    go_enter Try.func146, Try.ntmps146
    go_wp2
    refine bodyPost_ret (v := .int .i64 (if left < x_text.size then -1 else left - x_text.size)) (by first | (simp [results, Try.results146, *]; done) | (simp [results, Try.results146, *]; omega)) rfl ⟨by first | rfl | (split <;> first | rfl | (exfalso; omega)), ?_⟩
    (repeat' (first | (with_reducible exact Below.refl _ _) | (with_reducible refine Below.alloc ?_ ?_ _) | (with_reducible refine au ?_ ?_ _ _) | (with_reducible refine Below.setCell ?_ ?_ _) | (with_reducible refine Below.drew ?_) | (with_reducible refine aT ?_ _) | (with_reducible assumption) | (with_reducible refine aF ?_ (by assumption) ?_) | (simp only [World.size_alloc, World.size_setCell, World.size_drew, World.heap_drewN, a8]; done) | (simp only [World.size_alloc, World.size_setCell, World.size_drew, World.heap_drewN, a8]; omega) | omega))
theorem szSender_c (x_una : Int) (x_data : ByteArray) (x_sent : Int) (x_fin : Bool) (x_finSent : Bool) (x_done : Bool) (left : Int) (w : World) (h0 : 0 ≤ left) (h1 : left ≤ 1048576) (hm : x_data.size ≤ maxLen) : Calls Try.prog 121 #[.agg #[.int .i64 x_una, .string x_data, .int .i64 x_sent, .bool x_fin, .bool x_finSent, .bool x_done], .int .i64 left] w fun e w' => e = .returned (.int .i64 (if left < x_data.size then -1 else left - x_data.size)) ∧ Below w.heap.size w w' := by
  unfold maxLen at hm
  by_cases h : left < x_data.size
  all_goals
    go_enter Try.func121, Try.ntmps121
    go_wp2
    refine bodyPost_ret (v := .int .i64 (if left < x_data.size then -1 else left - x_data.size)) (by first | (simp [results, Try.results121, *]; done) | (simp [results, Try.results121, *]; omega)) rfl ⟨by first | rfl | (split <;> first | rfl | (exfalso; omega)), ?_⟩
    (repeat' (first | (with_reducible exact Below.refl _ _) | (with_reducible refine Below.alloc ?_ ?_ _) | (with_reducible refine au ?_ ?_ _ _) | (with_reducible refine Below.setCell ?_ ?_ _) | (with_reducible refine Below.drew ?_) | (with_reducible refine aT ?_ _) | (with_reducible assumption) | (with_reducible refine aF ?_ (by assumption) ?_) | (simp only [World.size_alloc, World.size_setCell, World.size_drew, World.heap_drewN, a8]; done) | (simp only [World.size_alloc, World.size_setCell, World.size_drew, World.heap_drewN, a8]; omega) | omega))
theorem szSegment_c (x_src : Int) (x_dst : Int) (x_seq : Int) (x_ack : Int) (x_flags : Int) (x_window : Int) (x_o_mss : Int) (x_o_scale : Int) (x_o_sack : Bool) (x_o_stamp : Bool) (x_o_val : Int) (x_o_echo : Int) (x_body : ByteArray) (left : Int) (w : World) (h0 : 0 ≤ left) (h1 : left ≤ 1048576) (hm : x_body.size ≤ maxLen) : Calls Try.prog 11 #[.agg #[.int .i64 x_src, .int .i64 x_dst, .int .i64 x_seq, .int .i64 x_ack, .int .i64 x_flags, .int .i64 x_window, .int .i64 x_o_mss, .int .i64 x_o_scale, .bool x_o_sack, .bool x_o_stamp, .int .i64 x_o_val, .int .i64 x_o_echo, .string x_body], .int .i64 left] w fun e w' => e = .returned (.int .i64 (if left < x_body.size then -1 else left - x_body.size)) ∧ Below w.heap.size w w' := by
  unfold maxLen at hm
  by_cases h : left < x_body.size
  all_goals
    go_enter Try.func11, Try.ntmps11
    go_wp2
    refine bodyPost_ret (v := .int .i64 (if left < x_body.size then -1 else left - x_body.size)) (by first | (simp [results, Try.results11, *]; done) | (simp [results, Try.results11, *]; omega)) rfl ⟨by first | rfl | (split <;> first | rfl | (exfalso; omega)), ?_⟩
    (repeat' (first | (with_reducible exact Below.refl _ _) | (with_reducible refine Below.alloc ?_ ?_ _) | (with_reducible refine au ?_ ?_ _ _) | (with_reducible refine Below.setCell ?_ ?_ _) | (with_reducible refine Below.drew ?_) | (with_reducible refine aT ?_ _) | (with_reducible assumption) | (with_reducible refine aF ?_ (by assumption) ?_) | (simp only [World.size_alloc, World.size_setCell, World.size_drew, World.heap_drewN, a8]; done) | (simp only [World.size_alloc, World.size_setCell, World.size_drew, World.heap_drewN, a8]; omega) | omega))
def PcFit (left r : Int) (l : List Pce) : Prop := r = -1 ∨ (0 ≤ r ∧ r ≤ left ∧ l.length ≤ left ∧ ∀ p ∈ l, p.text.size ≤ left)
theorem szPieceS_c (v : Value) (l : List Pce) (left : Int) (w : World) (hl : Sl w v 2 (l.map pC)) (hm : ∀ p ∈ l, p.text.size ≤ maxLen) (h0 : 0 ≤ left) (h1 : left ≤ 1048576) : Calls Try.prog 141 #[v, .int .i64 left] w fun e w' => ∃ r : Int, e = .returned (.int .i64 r) ∧ PcFit left r l ∧ Below w.heap.size w w' := by
  obtain ⟨a, cap, rfl, h2, h3, h4, h5⟩ := hl
  simp only [List.length_map] at h2 ⊢
  unfold maxLen at h3
  have H5 := Lib.hid h5; clear h5
  have HM := Lib.hid hm; clear hm
  by_cases h : left < l.length
  · go_enter Try.func141, Try.ntmps141
    go_wp2
    refine bodyPost_ret (v := .int .i64 (-1)) (by simp [results, Try.results141]) rfl ⟨_, rfl, .inl rfl, ?_⟩
    (repeat' (first | (with_reducible exact Below.refl _ _) | (with_reducible refine Below.alloc ?_ ?_ _) | (with_reducible refine au ?_ ?_ _ _) | (with_reducible refine Below.setCell ?_ ?_ _) | (with_reducible refine Below.drew ?_) | (with_reducible refine aT ?_ _) | (with_reducible assumption) | (with_reducible refine aF ?_ (by assumption) ?_) | (simp only [World.size_alloc, World.size_setCell, World.size_drew, World.heap_drewN, a8]; done) | (simp only [World.size_alloc, World.size_setCell, World.size_drew, World.heap_drewN, a8]; omega) | omega))
  · have hn : (l.length : Int) ≤ left := by omega
    have hl0 : (0 : Int) ≤ left - l.length := by omega
    go_enter Try.func141, Try.ntmps141
    go_wp2
    go_loopw [1, 5] (fun c i wr => ∃ (k : Nat) (r : Int), k ≤ l.length ∧ i = .int .i64 k ∧ c = .int .i64 r ∧ 0 ≤ r ∧ r ≤ left ∧ Hid (∀ (j : Nat) (p : Pce), j < k → l[j]? = some p → p.text.size ≤ left) ∧ Below w.heap.size w wr) (fun _ i _ => l.length - (intOf i).toNat)
    case atStart => exact ⟨0, left - l.length, Nat.zero_le _, rfl, rfl, by omega, by omega, fun j p hj => by omega, Below.refl _ _⟩
    case round =>
      obtain ⟨k, r, hk, rfl, rfl, hr0, hr1, hno, hB⟩ := hrel
      by_cases hlt : k < l.length
      · obtain ⟨x, hx⟩ : ∃ x, l[k]? = some x := ⟨_, List.getElem?_eq_getElem hlt⟩
        obtain ⟨b, off, rfl, hbw, hr⟩ := H5.out k (pC x) (by simp [hx])
        have hr := Below.rangeAt hB hbw hr
        have hxm : x.text.size ≤ maxLen := HM.out x (List.mem_of_getElem? hx)
        have HX := Lib.hid hx; clear hx
        obtain ⟨x_off, x_text⟩ := x
        have c0 := hr 0 _ rfl
        have c1 := hr 1 _ rfl
        simp only [Nat.add_zero] at c0
        clear hr
        have hk0 : (0 : Int) ≤ (k : Int) := Int.natCast_nonneg _
        have hk1 : (k : Int) < (l.length : Int) := by omega
        have hBs := hB.size
        by_cases hq : r < x_text.size
        · go_wp2_with (go_at_call 146; with_reducible refine (szPiece_c _ _ _ _ hr0 (by omega) hxm).mono ?_; rintro e w2 ⟨rfl, hb2⟩; rw [if_pos hq])
          refine bodyPost_ret (v := .int .i64 (-1)) (by simp [results, Try.results141]) rfl ⟨_, rfl, .inl rfl, aF hB hb2 hBs⟩
        · have hr2 : (0 : Int) ≤ r - x_text.size := by omega
          go_wp2_with (go_at_call 146; with_reducible refine (szPiece_c _ _ _ _ hr0 (by omega) hxm).mono ?_; rintro e w2 ⟨rfl, hb2⟩; rw [if_neg (by omega)])
          go_roundw
          case rel => exact ⟨k + 1, r - x_text.size, by omega, by go_num, rfl, hr2, by omega, fun j p hj hp => by
            rcases Nat.lt_succ_iff_lt_or_eq.1 hj with h | rfl
            · exact hno j p h hp
            · have := HX.out.symm.trans hp; simp only [Option.some.injEq] at this; subst this; simp only; omega, aF hB hb2 hBs⟩
          case measure => simp [intOf]; omega
      · go_wp2
        refine bodyPost_ret (v := .int .i64 r) (by simp [results, Try.results141]) rfl ⟨_, rfl, .inr ⟨hr0, hr1, hn, fun p hp => by
          obtain ⟨j, hj, rfl⟩ := List.mem_iff_getElem.1 hp
          exact hno j _ (by omega) (List.getElem?_eq_getElem hj)⟩, hB⟩
theorem szReceiver_c (x_next : Int) (x_data : ByteArray) (x_held : List Pce) (x_held_v : Value) (x_fin : Int) (x_done : Bool) (left : Int) (w : World) (hl : Sl w x_held_v 2 (x_held.map pC)) (hm : ∀ p ∈ x_held, p.text.size ≤ maxLen) (h0 : 0 ≤ left) (h1 : left ≤ 1048576) (hd : x_data.size ≤ maxLen) : Calls Try.prog 122 #[.agg #[.int .i64 x_next, .string x_data, x_held_v, .int .i64 x_fin, .bool x_done], .int .i64 left] w fun e w' => ∃ r : Int, e = .returned (.int .i64 r) ∧ (r = -1 ∨ (0 ≤ r ∧ r ≤ left ∧ x_data.size ≤ left ∧ PcFit left r x_held)) ∧ Below w.heap.size w w' := by
  unfold maxLen at hd
  have HL := Lib.hid hl; have HM := Lib.hid hm; clear hl hm
  by_cases h : left < x_data.size
  · go_enter Try.func122, Try.ntmps122
    go_wp2
    refine bodyPost_ret (v := .int .i64 (-1)) (by simp [results, Try.results122]) rfl ⟨_, rfl, .inl rfl, ?_⟩
    (repeat' (first | (with_reducible exact Below.refl _ _) | (with_reducible refine Below.alloc ?_ ?_ _) | (with_reducible refine au ?_ ?_ _ _) | (with_reducible refine Below.setCell ?_ ?_ _) | (with_reducible refine Below.drew ?_) | (with_reducible refine aT ?_ _) | (with_reducible assumption) | (with_reducible refine aF ?_ (by assumption) ?_) | (simp only [World.size_alloc, World.size_setCell, World.size_drew, World.heap_drewN, a8]; done) | (simp only [World.size_alloc, World.size_setCell, World.size_drew, World.heap_drewN, a8]; omega) | omega))
  · have hl0 : (0 : Int) ≤ left - x_data.size := by omega
    go_enter Try.func122, Try.ntmps122
    go_wp2_with fail
    refine (szPieceS_c _ x_held _ _ (HL.out.kept (B := w.heap.size) (by (repeat' (first | (with_reducible exact Below.refl _ _) | (with_reducible refine Below.alloc ?_ ?_ _) | (with_reducible refine au ?_ ?_ _ _) | (with_reducible refine Below.setCell ?_ ?_ _) | (with_reducible refine Below.drew ?_) | (with_reducible refine aT ?_ _) | (with_reducible assumption) | (with_reducible refine aF ?_ (by assumption) ?_) | (simp only [World.size_alloc, World.size_setCell, World.size_drew, World.heap_drewN, a8]; done) | (simp only [World.size_alloc, World.size_setCell, World.size_drew, World.heap_drewN, a8]; omega) | omega))) (Nat.le_refl _)) HM.out hl0 (by omega)).mono ?_
    rintro e w1 ⟨r, rfl, hr, hb1⟩
    obtain ⟨d1, os1, rfl⟩ := aS hb1; clear hb1
    rcases hr with rfl | ⟨hr0, hr1, hr2, hr3⟩
    · go_wp2
      refine bodyPost_ret (v := .int .i64 (-1)) (by simp [results, Try.results122]) rfl ⟨_, rfl, .inl rfl, ?_⟩
      (repeat' (first | (with_reducible exact Below.refl _ _) | (with_reducible refine Below.alloc ?_ ?_ _) | (with_reducible refine au ?_ ?_ _ _) | (with_reducible refine Below.setCell ?_ ?_ _) | (with_reducible refine Below.drew ?_) | (with_reducible refine aT ?_ _) | (with_reducible assumption) | (with_reducible refine aF ?_ (by assumption) ?_) | (simp only [World.size_alloc, World.size_setCell, World.size_drew, World.heap_drewN, a8]; done) | (simp only [World.size_alloc, World.size_setCell, World.size_drew, World.heap_drewN, a8]; omega) | omega))
    · have HR := Lib.hid hr3; clear hr3
      go_wp2
      refine bodyPost_ret (v := .int .i64 r) (by simp [results, Try.results122]) rfl ⟨_, rfl, .inr ⟨hr0, by omega, by omega, .inr ⟨hr0, by omega, by omega, fun p hp => by have := HR.out p hp; omega⟩⟩, ?_⟩
      (repeat' (first | (with_reducible exact Below.refl _ _) | (with_reducible refine Below.alloc ?_ ?_ _) | (with_reducible refine au ?_ ?_ _ _) | (with_reducible refine Below.setCell ?_ ?_ _) | (with_reducible refine Below.drew ?_) | (with_reducible refine aT ?_ _) | (with_reducible assumption) | (with_reducible refine aF ?_ (by assumption) ?_) | (simp only [World.size_alloc, World.size_setCell, World.size_drew, World.heap_drewN, a8]; done) | (simp only [World.size_alloc, World.size_setCell, World.size_drew, World.heap_drewN, a8]; omega) | omega))
def ConFit (n : Int) (c : Con) : Prop := c.s.data.size ≤ n ∧ c.r.data.size ≤ n ∧ c.r.held.length ≤ n ∧ ∀ p ∈ c.r.held, p.text.size ≤ n
theorem szConn_c (x_t_ip : Int) (x_t_port : Int) (x_t_my : Int) (x_state : Int) (x_s_una : Int) (x_s_data : ByteArray) (x_s_sent : Int) (x_s_fin : Bool) (x_s_finSent : Bool) (x_s_done : Bool) (x_r_next : Int) (x_r_data : ByteArray) (x_r_held : List Pce) (x_r_held_v : Value) (x_r_fin : Int) (x_r_done : Bool) (x_window : Int) (x_most : Int) (x_o_mss : Int) (x_o_scale : Int) (x_o_sack : Bool) (x_o_stamp : Bool) (x_o_val : Int) (x_o_echo : Int) (x_timer : Int) (x_tries : Int) (left : Int) (w : World) (hl : Sl w x_r_held_v 2 (x_r_held.map pC)) (hm : ∀ p ∈ x_r_held, p.text.size ≤ maxLen) (h0 : 0 ≤ left) (h1 : left ≤ 1048576) (hd : x_r_data.size ≤ maxLen) (hsd : x_s_data.size ≤ maxLen) : Calls Try.prog 98 #[.agg #[.int .i64 x_t_ip, .int .i64 x_t_port, .int .i64 x_t_my, .int .i64 x_state, .int .i64 x_s_una, .string x_s_data, .int .i64 x_s_sent, .bool x_s_fin, .bool x_s_finSent, .bool x_s_done, .int .i64 x_r_next, .string x_r_data, x_r_held_v, .int .i64 x_r_fin, .bool x_r_done, .int .i64 x_window, .int .i64 x_most, .int .i64 x_o_mss, .int .i64 x_o_scale, .bool x_o_sack, .bool x_o_stamp, .int .i64 x_o_val, .int .i64 x_o_echo, .int .i64 x_timer, .int .i64 x_tries], .int .i64 left] w fun e w' => ∃ r : Int, e = .returned (.int .i64 r) ∧ (r = -1 ∨ (0 ≤ r ∧ r ≤ left ∧ ConFit left ⟨⟨x_t_ip, x_t_port, x_t_my⟩, x_state, ⟨x_s_una, x_s_data, x_s_sent, x_s_fin, x_s_finSent, x_s_done⟩, ⟨x_r_next, x_r_data, x_r_held, x_r_fin, x_r_done⟩, x_window, x_most, ⟨x_o_mss, x_o_scale, x_o_sack, x_o_stamp, x_o_val, x_o_echo⟩, x_timer, x_tries⟩)) ∧ Below w.heap.size w w' := by
  have HL := Lib.hid hl; have HM := Lib.hid hm; clear hl hm
  by_cases h : left < x_s_data.size
  · go_enter Try.func98, Try.ntmps98
    go_wp2_with (go_at_call 121; with_reducible refine (szSender_c _ _ _ _ _ _ _ _ h0 h1 hsd).mono ?_; rintro e w1 ⟨rfl, hb1⟩; obtain ⟨d1, os1, rfl⟩ := aS hb1; clear hb1; rw [if_pos h])
    refine bodyPost_ret (v := .int .i64 (-1)) (by simp [results, Try.results98]) rfl ⟨_, rfl, .inl rfl, ?_⟩
    (repeat' (first | (with_reducible exact Below.refl _ _) | (with_reducible refine Below.alloc ?_ ?_ _) | (with_reducible refine au ?_ ?_ _ _) | (with_reducible refine Below.setCell ?_ ?_ _) | (with_reducible refine Below.drew ?_) | (with_reducible refine aT ?_ _) | (with_reducible assumption) | (with_reducible refine aF ?_ (by assumption) ?_) | (simp only [World.size_alloc, World.size_setCell, World.size_drew, World.heap_drewN, a8]; done) | (simp only [World.size_alloc, World.size_setCell, World.size_drew, World.heap_drewN, a8]; omega) | omega))
  · have hl0 : (0 : Int) ≤ left - x_s_data.size := by omega
    go_enter Try.func98, Try.ntmps98
    go_wp2_with fail
    refine (szSender_c _ _ _ _ _ _ _ _ h0 h1 hsd).mono ?_
    rintro e w1 ⟨rfl, hb1⟩; obtain ⟨d1, os1, rfl⟩ := aS hb1; clear hb1
    rw [if_neg (by omega)]
    go_wp2_with fail
    refine (szReceiver_c _ _ x_r_held _ _ _ _ _ (HL.out.kept (B := w.heap.size) (by (repeat' (first | (with_reducible exact Below.refl _ _) | (with_reducible refine Below.alloc ?_ ?_ _) | (with_reducible refine au ?_ ?_ _ _) | (with_reducible refine Below.setCell ?_ ?_ _) | (with_reducible refine Below.drew ?_) | (with_reducible refine aT ?_ _) | (with_reducible assumption) | (with_reducible refine aF ?_ (by assumption) ?_) | (simp only [World.size_alloc, World.size_setCell, World.size_drew, World.heap_drewN, a8]; done) | (simp only [World.size_alloc, World.size_setCell, World.size_drew, World.heap_drewN, a8]; omega) | omega))) (Nat.le_refl _)) HM.out hl0 (by omega) hd).mono ?_
    rintro e w2 ⟨r, rfl, hr, hb2⟩
    obtain ⟨d2, os2, rfl⟩ := aS hb2; clear hb2
    rcases hr with rfl | ⟨hr0, hr1, hr2, hr3⟩
    · go_wp2
      refine bodyPost_ret (v := .int .i64 (-1)) (by simp [results, Try.results98]) rfl ⟨_, rfl, .inl rfl, ?_⟩
      (repeat' (first | (with_reducible exact Below.refl _ _) | (with_reducible refine Below.alloc ?_ ?_ _) | (with_reducible refine au ?_ ?_ _ _) | (with_reducible refine Below.setCell ?_ ?_ _) | (with_reducible refine Below.drew ?_) | (with_reducible refine aT ?_ _) | (with_reducible assumption) | (with_reducible refine aF ?_ (by assumption) ?_) | (simp only [World.size_alloc, World.size_setCell, World.size_drew, World.heap_drewN, a8]; done) | (simp only [World.size_alloc, World.size_setCell, World.size_drew, World.heap_drewN, a8]; omega) | omega))
    · have HR := Lib.hid hr3; clear hr3
      go_wp2
      refine bodyPost_ret (v := .int .i64 r) (by simp [results, Try.results98]) rfl ⟨_, rfl, .inr ⟨hr0, by omega, ?_⟩, ?_⟩
      · rcases HR.out with h | ⟨_, _, h2, h3⟩
        · omega
        · exact ⟨by simp only; omega, by simp only; omega, by simp only; omega, fun p hp => by have := h3 p hp; omega⟩
      · (repeat' (first | (with_reducible exact Below.refl _ _) | (with_reducible refine Below.alloc ?_ ?_ _) | (with_reducible refine au ?_ ?_ _ _) | (with_reducible refine Below.setCell ?_ ?_ _) | (with_reducible refine Below.drew ?_) | (with_reducible refine aT ?_ _) | (with_reducible assumption) | (with_reducible refine aF ?_ (by assumption) ?_) | (simp only [World.size_alloc, World.size_setCell, World.size_drew, World.heap_drewN, a8]; done) | (simp only [World.size_alloc, World.size_setCell, World.size_drew, World.heap_drewN, a8]; omega) | omega))
set_option maxHeartbeats 1000000 in
theorem toReceiver_c (x_next : Int) (x_data : ByteArray) (x_held : List Pce) (x_held_v : Value) (x_fin : Int) (x_done : Bool) (w : World) (hl : Sl w x_held_v 2 (x_held.map pC)) (hn : x_held.length ≤ 1048576) : Calls Try.prog 125 #[.agg #[.int .i64 x_next, .string x_data, x_held_v, .int .i64 x_fin, .bool x_done]] w fun e w' => ∃ v' : Value, e = .returned (.agg #[.int .i64 x_next, .string x_data, v', .int .i64 x_fin, .bool x_done]) ∧ Own w' w.heap.size v' 2 (x_held.map pC) ∧ Below w.heap.size w w' := by
  have HL := Lib.hid hl; clear hl
  go_enter Try.func125, Try.ntmps125
  go_wp2_with fail
  refine (toPieceS_c _ x_held _ (HL.out.kept (B := w.heap.size) (by (repeat' (first | (with_reducible exact Below.refl _ _) | (with_reducible refine Below.alloc ?_ ?_ _) | (with_reducible refine au ?_ ?_ _ _) | (with_reducible refine Below.setCell ?_ ?_ _) | (with_reducible refine Below.drew ?_) | (with_reducible refine aT ?_ _) | (with_reducible assumption) | (with_reducible refine aF ?_ (by assumption) ?_) | (simp only [World.size_alloc, World.size_setCell, World.size_drew, World.heap_drewN, a8]; done) | (simp only [World.size_alloc, World.size_setCell, World.size_drew, World.heap_drewN, a8]; omega) | omega))) (Nat.le_refl _)) hn).mono ?_
  rintro e w1 ⟨v1, rfl, hO1, hb1⟩
  obtain ⟨a1, cap1, rfl⟩ := hO1.form
  obtain ⟨d1, os1, rfl⟩ := aS hb1; clear hb1
  go_wp2
  refine bodyPost_ret (v := .agg #[.int .i64 x_next, .string x_data, .slice a1 _ cap1, .int .i64 x_fin, .bool x_done]) (by simp [results, Try.results125, go_sem, *]) rfl ⟨_, rfl, (hO1.mid (by (repeat' (first | (with_reducible exact Mid.refl _ _ _) | (with_reducible refine Mid.swap ?_) | (with_reducible refine Mid.grow ?_ ?_ _ _) | (with_reducible refine Mid.alloc ?_ ?_ _) | (with_reducible refine Mid.setCell ?_ ?_ _) | (with_reducible refine Mid.drew ?_) | (with_reducible refine Mid.drewN ?_ _) | (with_reducible refine Mid.below ?_ (by assumption) ?_) | (simp only [World.size_alloc, World.size_setCell, World.size_drew, World.heap_drewN, a8]; done) | (simp only [World.size_alloc, World.size_setCell, World.size_drew, World.heap_drewN, a8]; omega) | omega)))).lower (by simp only [World.size_alloc, World.size_setCell, World.size_drew, World.heap_drewN, a8]; omega), ?_⟩
  (repeat' (first | (with_reducible exact Below.refl _ _) | (with_reducible refine Below.alloc ?_ ?_ _) | (with_reducible refine au ?_ ?_ _ _) | (with_reducible refine Below.setCell ?_ ?_ _) | (with_reducible refine Below.drew ?_) | (with_reducible refine aT ?_ _) | (with_reducible assumption) | (with_reducible refine aF ?_ (by assumption) ?_) | (simp only [World.size_alloc, World.size_setCell, World.size_drew, World.heap_drewN, a8]; done) | (simp only [World.size_alloc, World.size_setCell, World.size_drew, World.heap_drewN, a8]; omega) | omega))
set_option maxHeartbeats 4000000 in
theorem toConn_c (x_t_ip : Int) (x_t_port : Int) (x_t_my : Int) (x_state : Int) (x_s_una : Int) (x_s_data : ByteArray) (x_s_sent : Int) (x_s_fin : Bool) (x_s_finSent : Bool) (x_s_done : Bool) (x_r_next : Int) (x_r_data : ByteArray) (x_r_held : List Pce) (x_r_held_v : Value) (x_r_fin : Int) (x_r_done : Bool) (x_window : Int) (x_most : Int) (x_o_mss : Int) (x_o_scale : Int) (x_o_sack : Bool) (x_o_stamp : Bool) (x_o_val : Int) (x_o_echo : Int) (x_timer : Int) (x_tries : Int) (w : World) (hl : Sl w x_r_held_v 2 (x_r_held.map pC)) (hn : x_r_held.length ≤ 1048576) : Calls Try.prog 101 #[.agg #[.int .i64 x_t_ip, .int .i64 x_t_port, .int .i64 x_t_my, .int .i64 x_state, .int .i64 x_s_una, .string x_s_data, .int .i64 x_s_sent, .bool x_s_fin, .bool x_s_finSent, .bool x_s_done, .int .i64 x_r_next, .string x_r_data, x_r_held_v, .int .i64 x_r_fin, .bool x_r_done, .int .i64 x_window, .int .i64 x_most, .int .i64 x_o_mss, .int .i64 x_o_scale, .bool x_o_sack, .bool x_o_stamp, .int .i64 x_o_val, .int .i64 x_o_echo, .int .i64 x_timer, .int .i64 x_tries]] w fun e w' => ∃ v' : Value, e = .returned (.agg #[.int .i64 x_t_ip, .int .i64 x_t_port, .int .i64 x_t_my, .int .i64 x_state, .int .i64 x_s_una, .string x_s_data, .int .i64 x_s_sent, .bool x_s_fin, .bool x_s_finSent, .bool x_s_done, .int .i64 x_r_next, .string x_r_data, v', .int .i64 x_r_fin, .bool x_r_done, .int .i64 x_window, .int .i64 x_most, .int .i64 x_o_mss, .int .i64 x_o_scale, .bool x_o_sack, .bool x_o_stamp, .int .i64 x_o_val, .int .i64 x_o_echo, .int .i64 x_timer, .int .i64 x_tries]) ∧ Own w' w.heap.size v' 2 (x_r_held.map pC) ∧ Below w.heap.size w w' := by
  have HL := Lib.hid hl; clear hl
  go_enter Try.func101, Try.ntmps101
  go_wp2_with fail
  refine (dw _ _ _ _).mono ?_
  rintro e w1 ⟨rfl, hb1⟩; obtain ⟨d1, os1, rfl⟩ := aS hb1; clear hb1
  go_wp2_with fail
  refine (toSender_c _ _ _ _ _ _ _).mono ?_
  rintro e w2 ⟨rfl, hb2⟩; obtain ⟨d2, os2, rfl⟩ := aS hb2; clear hb2
  go_wp2_with fail
  refine (toReceiver_c _ _ x_r_held _ _ _ _ (HL.out.kept (B := w.heap.size) (by (repeat' (first | (with_reducible exact Below.refl _ _) | (with_reducible refine Below.alloc ?_ ?_ _) | (with_reducible refine au ?_ ?_ _ _) | (with_reducible refine Below.setCell ?_ ?_ _) | (with_reducible refine Below.drew ?_) | (with_reducible refine aT ?_ _) | (with_reducible assumption) | (with_reducible refine aF ?_ (by assumption) ?_) | (simp only [World.size_alloc, World.size_setCell, World.size_drew, World.heap_drewN, a8]; done) | (simp only [World.size_alloc, World.size_setCell, World.size_drew, World.heap_drewN, a8]; omega) | omega))) (Nat.le_refl _)) hn).mono ?_
  rintro e w3 ⟨v3, rfl, hO3, hb3⟩
  obtain ⟨a3, cap3, rfl⟩ := hO3.form
  obtain ⟨d3, os3, rfl⟩ := aS hb3; clear hb3
  go_wp2_with fail
  refine (toOptions_c _ _ _ _ _ _ _).mono ?_
  rintro e w4 ⟨rfl, hb4⟩; obtain ⟨d4, os4, rfl⟩ := aS hb4; clear hb4
  go_wp2
  refine bodyPost_ret (v := .agg #[.int .i64 x_t_ip, .int .i64 x_t_port, .int .i64 x_t_my, .int .i64 x_state, .int .i64 x_s_una, .string x_s_data, .int .i64 x_s_sent, .bool x_s_fin, .bool x_s_finSent, .bool x_s_done, .int .i64 x_r_next, .string x_r_data, .slice a3 _ cap3, .int .i64 x_r_fin, .bool x_r_done, .int .i64 x_window, .int .i64 x_most, .int .i64 x_o_mss, .int .i64 x_o_scale, .bool x_o_sack, .bool x_o_stamp, .int .i64 x_o_val, .int .i64 x_o_echo, .int .i64 x_timer, .int .i64 x_tries]) ((res_implConn Try.results101 _ _ _ rfl (by simp [go_sem])).trans (by simp [go_sem])) rfl ⟨_, rfl, (hO3.mid (by (repeat' (first | (with_reducible exact Mid.refl _ _ _) | (with_reducible refine Mid.swap ?_) | (with_reducible refine Mid.grow ?_ ?_ _ _) | (with_reducible refine Mid.alloc ?_ ?_ _) | (with_reducible refine Mid.setCell ?_ ?_ _) | (with_reducible refine Mid.drew ?_) | (with_reducible refine Mid.drewN ?_ _) | (with_reducible refine Mid.below ?_ (by assumption) ?_) | (simp only [World.size_alloc, World.size_setCell, World.size_drew, World.heap_drewN, a8]; done) | (simp only [World.size_alloc, World.size_setCell, World.size_drew, World.heap_drewN, a8]; omega) | omega)))).lower (by simp only [World.size_alloc, World.size_setCell, World.size_drew, World.heap_drewN, a8]; omega), ?_⟩
  (repeat' (first | (with_reducible exact Below.refl _ _) | (with_reducible refine Below.alloc ?_ ?_ _) | (with_reducible refine au ?_ ?_ _ _) | (with_reducible refine Below.setCell ?_ ?_ _) | (with_reducible refine Below.drew ?_) | (with_reducible refine aT ?_ _) | (with_reducible assumption) | (with_reducible refine aF ?_ (by assumption) ?_) | (simp only [World.size_alloc, World.size_setCell, World.size_drew, World.heap_drewN, a8]; done) | (simp only [World.size_alloc, World.size_setCell, World.size_drew, World.heap_drewN, a8]; omega) | omega))
theorem eqReceiver_c (x_next : Int) (x_data : ByteArray) (x_held : List Pce) (x_held_v : Value) (x_fin : Int) (x_done : Bool) (u : Value) (w : World) (hl : Sl w x_held_v 2 (x_held.map pC)) (hu : Sl w u 2 (x_held.map pC)) : Calls Try.prog 129 #[.agg #[.int .i64 x_next, .string x_data, x_held_v, .int .i64 x_fin, .bool x_done], .agg #[.int .i64 x_next, .string x_data, u, .int .i64 x_fin, .bool x_done]] w fun e w' => e = .returned (.bool true) ∧ Below w.heap.size w w' := by
  have HL := Lib.hid hl; have HU := Lib.hid hu; clear hl hu
  go_enter Try.func129, Try.ntmps129
  go_wp2_with fail
  refine (eqPieceS_c _ _ x_held _ (HL.out.kept (B := w.heap.size) (by (repeat' (first | (with_reducible exact Below.refl _ _) | (with_reducible refine Below.alloc ?_ ?_ _) | (with_reducible refine au ?_ ?_ _ _) | (with_reducible refine Below.setCell ?_ ?_ _) | (with_reducible refine Below.drew ?_) | (with_reducible refine aT ?_ _) | (with_reducible assumption) | (with_reducible refine aF ?_ (by assumption) ?_) | (simp only [World.size_alloc, World.size_setCell, World.size_drew, World.heap_drewN, a8]; done) | (simp only [World.size_alloc, World.size_setCell, World.size_drew, World.heap_drewN, a8]; omega) | omega))) (Nat.le_refl _)) (HU.out.kept (B := w.heap.size) (by (repeat' (first | (with_reducible exact Below.refl _ _) | (with_reducible refine Below.alloc ?_ ?_ _) | (with_reducible refine au ?_ ?_ _ _) | (with_reducible refine Below.setCell ?_ ?_ _) | (with_reducible refine Below.drew ?_) | (with_reducible refine aT ?_ _) | (with_reducible assumption) | (with_reducible refine aF ?_ (by assumption) ?_) | (simp only [World.size_alloc, World.size_setCell, World.size_drew, World.heap_drewN, a8]; done) | (simp only [World.size_alloc, World.size_setCell, World.size_drew, World.heap_drewN, a8]; omega) | omega))) (Nat.le_refl _))).mono ?_
  rintro e w1 ⟨rfl, hb1⟩; obtain ⟨d1, os1, rfl⟩ := aS hb1; clear hb1
  go_wp2
  refine bodyPost_ret (v := .bool true) (by simp [results, Try.results129]) rfl ⟨rfl, ?_⟩
  (repeat' (first | (with_reducible exact Below.refl _ _) | (with_reducible refine Below.alloc ?_ ?_ _) | (with_reducible refine au ?_ ?_ _ _) | (with_reducible refine Below.setCell ?_ ?_ _) | (with_reducible refine Below.drew ?_) | (with_reducible refine aT ?_ _) | (with_reducible assumption) | (with_reducible refine aF ?_ (by assumption) ?_) | (simp only [World.size_alloc, World.size_setCell, World.size_drew, World.heap_drewN, a8]; done) | (simp only [World.size_alloc, World.size_setCell, World.size_drew, World.heap_drewN, a8]; omega) | omega))
set_option maxHeartbeats 2000000 in
theorem eqConn_c (x_t_ip : Int) (x_t_port : Int) (x_t_my : Int) (x_state : Int) (x_s_una : Int) (x_s_data : ByteArray) (x_s_sent : Int) (x_s_fin : Bool) (x_s_finSent : Bool) (x_s_done : Bool) (x_r_next : Int) (x_r_data : ByteArray) (x_r_held : List Pce) (x_r_held_v : Value) (x_r_fin : Int) (x_r_done : Bool) (x_window : Int) (x_most : Int) (x_o_mss : Int) (x_o_scale : Int) (x_o_sack : Bool) (x_o_stamp : Bool) (x_o_val : Int) (x_o_echo : Int) (x_timer : Int) (x_tries : Int) (u : Value) (w : World) (hl : Sl w x_r_held_v 2 (x_r_held.map pC)) (hu : Sl w u 2 (x_r_held.map pC)) : Calls Try.prog 107 #[.agg #[.int .i64 x_t_ip, .int .i64 x_t_port, .int .i64 x_t_my, .int .i64 x_state, .int .i64 x_s_una, .string x_s_data, .int .i64 x_s_sent, .bool x_s_fin, .bool x_s_finSent, .bool x_s_done, .int .i64 x_r_next, .string x_r_data, x_r_held_v, .int .i64 x_r_fin, .bool x_r_done, .int .i64 x_window, .int .i64 x_most, .int .i64 x_o_mss, .int .i64 x_o_scale, .bool x_o_sack, .bool x_o_stamp, .int .i64 x_o_val, .int .i64 x_o_echo, .int .i64 x_timer, .int .i64 x_tries], .agg #[.int .i64 x_t_ip, .int .i64 x_t_port, .int .i64 x_t_my, .int .i64 x_state, .int .i64 x_s_una, .string x_s_data, .int .i64 x_s_sent, .bool x_s_fin, .bool x_s_finSent, .bool x_s_done, .int .i64 x_r_next, .string x_r_data, u, .int .i64 x_r_fin, .bool x_r_done, .int .i64 x_window, .int .i64 x_most, .int .i64 x_o_mss, .int .i64 x_o_scale, .bool x_o_sack, .bool x_o_stamp, .int .i64 x_o_val, .int .i64 x_o_echo, .int .i64 x_timer, .int .i64 x_tries]] w fun e w' => e = .returned (.bool true) ∧ Below w.heap.size w w' := by
  have HL := Lib.hid hl; have HU := Lib.hid hu; clear hl hu
  go_enter Try.func107, Try.ntmps107
  go_wp2_with (first | (go_at_call 105; with_reducible refine (eqTuple_c _ _ _ _).mono ?_; rintro e w1 ⟨rfl, hb1⟩; obtain ⟨d1, os1, rfl⟩ := aS hb1; clear hb1) | (go_at_call 128; with_reducible refine (eqSender_c _ _ _ _ _ _ _).mono ?_; rintro e w2 ⟨rfl, hb2⟩; obtain ⟨d2, os2, rfl⟩ := aS hb2; clear hb2) | (go_at_call 106; with_reducible refine (eqOptions_c _ _ _ _ _ _ _).mono ?_; rintro e w4 ⟨rfl, hb4⟩; obtain ⟨d4, os4, rfl⟩ := aS hb4; clear hb4) | (go_at_call 129; refine (eqReceiver_c _ _ x_r_held _ _ _ _ _ (HL.out.kept (B := w.heap.size) (by (repeat' (first | (with_reducible exact Below.refl _ _) | (with_reducible refine Below.alloc ?_ ?_ _) | (with_reducible refine au ?_ ?_ _ _) | (with_reducible refine Below.setCell ?_ ?_ _) | (with_reducible refine Below.drew ?_) | (with_reducible refine aT ?_ _) | (with_reducible assumption) | (with_reducible refine aF ?_ (by assumption) ?_) | (simp only [World.size_alloc, World.size_setCell, World.size_drew, World.heap_drewN, a8]; done) | (simp only [World.size_alloc, World.size_setCell, World.size_drew, World.heap_drewN, a8]; omega) | omega))) (Nat.le_refl _)) (HU.out.kept (B := w.heap.size) (by (repeat' (first | (with_reducible exact Below.refl _ _) | (with_reducible refine Below.alloc ?_ ?_ _) | (with_reducible refine au ?_ ?_ _ _) | (with_reducible refine Below.setCell ?_ ?_ _) | (with_reducible refine Below.drew ?_) | (with_reducible refine aT ?_ _) | (with_reducible assumption) | (with_reducible refine aF ?_ (by assumption) ?_) | (simp only [World.size_alloc, World.size_setCell, World.size_drew, World.heap_drewN, a8]; done) | (simp only [World.size_alloc, World.size_setCell, World.size_drew, World.heap_drewN, a8]; omega) | omega))) (Nat.le_refl _))).mono ?_; rintro e w3 ⟨rfl, hb3⟩; obtain ⟨d3, os3, rfl⟩ := aS hb3; clear hb3))
  refine bodyPost_ret (v := .bool true) (by simp [results, Try.results107]) rfl ⟨rfl, ?_⟩
  (repeat' (first | (with_reducible exact Below.refl _ _) | (with_reducible refine Below.alloc ?_ ?_ _) | (with_reducible refine au ?_ ?_ _ _) | (with_reducible refine Below.setCell ?_ ?_ _) | (with_reducible refine Below.drew ?_) | (with_reducible refine aT ?_ _) | (with_reducible assumption) | (with_reducible refine aF ?_ (by assumption) ?_) | (simp only [World.size_alloc, World.size_setCell, World.size_drew, World.heap_drewN, a8]; done) | (simp only [World.size_alloc, World.size_setCell, World.size_drew, World.heap_drewN, a8]; omega) | omega))
end
/- Contracts: half-open connections (find, same). -/
section
open Go.RowKit
attribute [local go_sem] cm cl ck cj bj bY bi bl bf bg bc ba bh bd bn bo bm a8 cell?_grow frozen?_grow aU bw b0
attribute [local go_sem] ae al b5 aC aK af ak aA aD aJ bv ct ap ar aa ab
attribute [local go_sem ↓] run_eql_TUP run_neq_HLF
set_option linter.unusedVariables false
set_option linter.unusedSimpArgs false
end
/- Plain laws: half-open connections (no program in sight). -/
section
open Go.RowKit
end
/- The machine: connections in rows, each with a slice of its own. -/
section
open Go.RowKit
set_option linter.unusedVariables false
set_option linter.unusedSimpArgs false
def aQ (x : CV) : List Value := conL x.1 x.2
def bJ (cs : List CV) : Fact where
  own := false
  p := fun w => ∀ x ∈ cs, Sl w x.2 2 (x.1.r.held.map pC)
  blk := fun b => ∃ x ∈ cs, (ag x.2 2 (x.1.r.held.map pC)).blk b
  lt := fun w b h ⟨x, hx, hb⟩ => (ag x.2 2 (x.1.r.held.map pC)).lt w b (h x hx) hb
  keep := fun w w' h hs hb x hx => (ag x.2 2 (x.1.r.held.map pC)).keep w w' (h x hx) hs fun b hbx => hb b ⟨x, hx, hbx⟩
theorem cv_form {w : World} {x : CV} (h : Sl w x.2 2 (x.1.r.held.map pC)) : ∃ c a cp, x = (c, .slice a c.r.held.length cp) := by
  obtain ⟨c, v⟩ := x
  obtain ⟨a, cp, hv⟩ := h.form
  exact ⟨c, a, cp, by simp only at hv; rw [hv, List.length_map]⟩
section
variable {P : Program} {n : Nat} {w0 : World} {QX : Exit → St → Prop} {st st' : St} {ops : Array Oper} {l : List Oper}
variable {fuel : Nat} {listed : Array Bool} {B : List Box} {R : List (List Value)} {ρ : Nat → Nat} {σ : Nat → Nat × Nat}
end
end
/- The machine: memory of the call's own, one slice a connection, kept together. -/
section
open Go.RowKit
set_option linter.unusedVariables false
set_option linter.unusedSimpArgs false
def ApR (f g : Fact) : Prop := (f.own = true → ∀ b, f.blk b → ¬ g.blk b) ∧ (g.own = true → ∀ b, g.blk b → ¬ f.blk b)
theorem apart_iff {fs : List Fact} : Apart fs ↔ fs.Pairwise ApR := by
  rw [List.pairwise_iff_getElem]
  constructor
  · intro h i j hi hj hij
    have e1 := List.getElem?_eq_getElem hi
    have e2 := List.getElem?_eq_getElem hj
    exact ⟨fun ho b => h i j _ _ e1 e2 (by omega) ho b, fun ho b => h j i _ _ e2 e1 (by omega) ho b⟩
  · intro h i j f g hi hj hij ho b hb
    obtain ⟨h1, rfl⟩ := List.getElem?_eq_some_iff.1 hi
    obtain ⟨h2, rfl⟩ := List.getElem?_eq_some_iff.1 hj
    rcases Nat.lt_or_gt_of_ne hij with hlt | hlt
    · exact (h i j h1 h2 hlt).1 ho b hb
    · exact (h j i h2 h1 hlt).2 ho b hb
theorem Apart.sublist {fs gs : List Fact} (h : Apart fs) (hs : gs.Sublist fs) : Apart gs := apart_iff.2 ((apart_iff.1 h).sublist hs)
theorem ApR.symm {f g : Fact} (h : ApR f g) : ApR g f := ⟨h.2, h.1⟩
theorem Apart.mid {p s : List Fact} {f : Fact} (h : Apart (p ++ s)) (hf : ∀ g ∈ p ++ s, ApR f g) : Apart (p ++ f :: s) := by
  rw [apart_iff] at h ⊢
  rw [List.pairwise_append] at h ⊢
  obtain ⟨h1, h2, h3⟩ := h
  refine ⟨h1, List.pairwise_cons.2 ⟨fun g hg => hf g (List.mem_append_right _ hg), h2⟩, fun a ha b hb => ?_⟩
  rcases List.mem_cons.1 hb with rfl | hb
  · exact (hf a (List.mem_append_left _ ha)).symm
  · exact h3 a ha b hb
section
variable {w0 : World} {b : List Box} {r : List (List Value)} {ρ : Nat → Nat} {σ : Nat → Nat × Nat} {w : World} {hs : List Fact}
theorem XHeap.weak {f f' : Fact} (h : XHeap w0 b r (f :: hs) ρ σ w) (ho : f.own = true) (hp : f.p w → f'.p w) (hb : ∀ q, f'.blk q → f.blk q) : XHeap w0 b r (f' :: hs) ρ σ w := by
  obtain ⟨h1, h2⟩ := h.fact f (List.mem_cons_self ..)
  refine ⟨h.below, h.box, h.inj, h.row, fun g hg => ?_, (Apart.back (gs := [f]) h.apart).cons fun g hg q hq hgq => ?_⟩
  · rcases List.mem_cons.1 hg with rfl | hg
    · exact ⟨hp h1, fun i hi hq => h2 i hi (hb _ hq)⟩
    · exact h.fact g (List.mem_cons_of_mem _ hg)
  · obtain ⟨j, hj⟩ := List.getElem?_of_mem hg
    exact h.apart 0 (j + 1) f g rfl hj (by omega) ho q (hb q hq) hgq
theorem all_put {p s : List Fact} {f : Fact} (ho : f.own = true) (h : XHeap w0 b r (f :: allF (p ++ s) :: hs) ρ σ w) : XHeap w0 b r (allF (p ++ f :: s) :: hs) ρ σ w := by
  obtain ⟨h1, h2⟩ := h.fact f (List.mem_cons_self ..)
  obtain ⟨⟨h3, h4⟩, h5⟩ := h.fact (allF (p ++ s)) (by simp)
  have hmem : ∀ g ∈ p ++ f :: s, g = f ∨ g ∈ p ++ s := fun g hg => by
    simp only [List.mem_append, List.mem_cons] at hg ⊢
    rcases hg with hg | rfl | hg
    · exact .inr (.inl hg)
    · exact .inl rfl
    · exact .inr (.inr hg)
  refine ⟨h.below, h.box, h.inj, h.row, fun g hg => ?_, (Apart.back (gs := [f, allF (p ++ s)]) h.apart).cons fun g hg q hq hgq => ?_⟩
  · rcases List.mem_cons.1 hg with rfl | hg
    · refine ⟨⟨fun k hk => ?_, h4.mid fun g hg => ⟨fun _ q hq hgq => ?_, fun _ q hgq hq => ?_⟩⟩, fun i hi hq => ?_⟩
      · rcases hmem k hk with rfl | hk
        · exact h1
        · exact h3 k hk
      · exact h.apart 0 1 f _ rfl rfl (by omega) ho q hq ⟨g, hg, hgq⟩
      · exact h.apart 1 0 _ f rfl rfl (by omega) rfl q ⟨g, hg, hgq⟩ hq
      · obtain ⟨k, hk, hkq⟩ := hq
        rcases hmem k hk with rfl | hk
        · exact h2 i hi hkq
        · exact h5 i hi ⟨k, hk, hkq⟩
    · exact h.fact g (by simp [hg])
  · obtain ⟨j, hj⟩ := List.getElem?_of_mem hg
    obtain ⟨k, hk, hkq⟩ := hq
    rcases hmem k hk with rfl | hk
    · exact h.apart 0 (j + 2) _ g rfl hj (by omega) ho q hkq hgq
    · exact h.apart 1 (j + 2) _ g rfl hj (by omega) rfl q ⟨k, hk, hkq⟩ hgq
end
def hlF (B : Nat) (x : CV) : Fact := bQ B x.2 2 (x.1.r.held.map pC)
def bp (B : Nat) (cs : List CV) : Fact := allF (cs.map (hlF B))
theorem hownF_sl {B : Nat} {cs : List CV} {w : World} (h : (bp B cs).p w) : ∀ x ∈ cs, Sl w x.2 2 (x.1.r.held.map pC) := fun x hx => Own.sl (h.1 (hlF B x) (List.mem_map_of_mem hx))
theorem hownF_lo {B : Nat} {cs : List CV} {w : World} (h : (bp B cs).p w) {q : Nat} (hq : (bp B cs).blk q) : B ≤ q := by
  obtain ⟨g, hg, hq⟩ := hq
  have := h.1 g hg
  obtain ⟨x, hx, rfl⟩ := List.mem_map.1 hg
  exact ownF_lo this hq
section
variable {w0 : World} {b : List Box} {r : List (List Value)} {ρ : Nat → Nat} {σ : Nat → Nat × Nat} {w : World} {hs : List Fact} {B : Nat}
theorem hown_put {cs : List CV} {i : Nat} {x : CV} (hi : i < cs.length) (h : XHeap w0 b r (hlF B x :: bp B (cs.take i ++ cs.drop (i + 1)) :: hs) ρ σ w) : XHeap w0 b r (bp B (cs.set i x) :: hs) ρ σ w := by
  unfold bp at h ⊢
  rw [List.map_append] at h
  have := all_put rfl h
  rw [List.set_eq_take_append_cons_drop, if_pos hi, List.map_append, List.map_cons]
  exact this
theorem hown_set {cs : List CV} {i : Nat} {x : CV} (hi : i < cs.length) (h : XHeap w0 b r (hlF B x :: bp B cs :: hs) ρ σ w) : XHeap w0 b r (bp B (cs.set i x) :: hs) ρ σ w := by
  refine hown_put hi ?_
  have hsub : (cs.take i ++ cs.drop (i + 1)).Sublist cs := by
    conv => rhs; rw [← List.take_append_drop i cs, List.drop_eq_getElem_cons hi]
    exact List.Sublist.append (List.Sublist.refl _) (List.sublist_cons_self _ _)
  obtain ⟨⟨h1, h2⟩, h3⟩ := h.fact (bp B cs) (by simp)
  obtain ⟨h4, h5⟩ := h.fact (hlF B x) (by simp)
  have hm := hsub.map (hlF B)
  have hblk : ∀ q, (bp B (cs.take i ++ cs.drop (i + 1))).blk q → (bp B cs).blk q := fun q ⟨g, hg, hq⟩ => ⟨g, hm.subset hg, hq⟩
  refine ⟨h.below, h.box, h.inj, h.row, fun g hg => ?_, ((Apart.back (gs := [hlF B x, bp B cs]) h.apart).cons fun g hg q hq hgq => ?_).cons fun g hg q hq hgq => ?_⟩
  · rcases List.mem_cons.1 hg with rfl | hg
    · exact ⟨h4, h5⟩
    rcases List.mem_cons.1 hg with rfl | hg
    · exact ⟨⟨fun g hg => h1 g (hm.subset hg), h2.sublist hm⟩, fun j hj hq => h3 j hj (hblk _ hq)⟩
    · exact h.fact g (by simp [hg])
  · obtain ⟨j, hj⟩ := List.getElem?_of_mem hg
    exact h.apart 1 (j + 2) _ g rfl hj (by omega) rfl q (hblk q hq) hgq
  · rcases List.mem_cons.1 hg with rfl | hg
    · exact h.apart 0 1 _ _ rfl rfl (by omega) rfl q hq (hblk q hgq)
    · obtain ⟨j, hj⟩ := List.getElem?_of_mem hg
      exact h.apart 0 (j + 2) _ g rfl hj (by omega) rfl q hq hgq
end
theorem wk_turn {t : List (Nat × AV)} {b : List Box} {r : List (List Value)} {fs fs' : List Fact} (h : ∀ w0 ρ σ w, XHeap w0 b r fs ρ σ w → XHeap w0 b r fs' ρ σ w) : Wk ⟨t, b, r, fs⟩ ⟨t, b, r, fs'⟩ :=
  fun n w0 ρ σ a w hr => ⟨⟨hr.1.size, hr.1.defers, hr.1.tmps⟩, h w0 ρ σ w hr.2⟩
theorem hownF_rep (w : World) (B n : Nat) {c : Con} (hc : c.r.held = [] := by rfl) : (bp B (List.replicate n (c, Value.slice none 0 0))).p w := by
  have hz : ∀ g ∈ (List.replicate n ((c, Value.slice none 0 0) : CV)).map (hlF B), g = hlF B (c, Value.slice none 0 0) := fun g hg => by
    obtain ⟨x, hx, rfl⟩ := List.mem_map.1 hg
    rw [(List.mem_replicate.1 hx).2]
  refine ⟨fun g hg => ?_, fun i j f g hi hj hij ho b hb => ?_⟩
  · rw [hz g hg]; exact .inl ⟨by show c.r.held.map pC = []; rw [hc]; rfl, none, rfl⟩
  · rw [hz f (List.mem_of_getElem? hi)] at hb
    exact (hb.1 (by show c.r.held.map pC = []; rw [hc]; rfl)).elim
theorem hownF_repb {B n q : Nat} {c : Con} (hc : c.r.held = [] := by rfl) : ¬ (bp B (List.replicate n (c, Value.slice none 0 0))).blk q := fun ⟨g, hg, hq⟩ => by
  obtain ⟨x, hx, rfl⟩ := List.mem_map.1 hg
  rw [(List.mem_replicate.1 hx).2] at hq
  exact (hq.1 (by show c.r.held.map pC = []; rw [hc]; rfl)).elim
theorem hownF_blk {B B' : Nat} {cs : List CV} {q : Nat} (h : (bp B cs).blk q) : (bp B' cs).blk q := by
  obtain ⟨g, hg, hq⟩ := h
  obtain ⟨x, hx, rfl⟩ := List.mem_map.1 hg
  exact ⟨hlF B' x, List.mem_map_of_mem hx, hq⟩
theorem hownF_lower {B B0 : Nat} {cs : List CV} {w : World} (h : (bp B0 cs).p w) (hB : B ≤ B0) : (bp B cs).p w := by
  refine ⟨fun g hg => ?_, ?_⟩
  · obtain ⟨x, hx, rfl⟩ := List.mem_map.1 hg
    exact ownF_ownF (h.1 (hlF B0 x) (List.mem_map_of_mem hx)) hB
  · have h2 := h.2
    rw [apart_iff] at h2 ⊢
    rw [List.pairwise_map] at h2 ⊢
    exact h2
theorem pH {B B0 : Nat} {cs : List CV} {w' : World} (h : (bp B0 cs).p w') (hB : B ≤ B0) : (bp B cs).p w' ∧ ∀ b, (bp B cs).blk b → B0 ≤ b := ⟨hownF_lower h hB, fun b hb => hownF_lo h (hownF_blk hb)⟩
theorem xo3 {w w' : World} {α : Type} {F : α → Value} {G : α → List Fact} (y : α) {v : Value} {f g h : Fact} (hv : v = F y) (hG : G y = [f, g, h]) (p : f.p w' ∧ ∀ b, f.blk b → w.heap.size ≤ b) (q : g.p w' ∧ ∀ b, g.blk b → w.heap.size ≤ b) (s : h.p w' ∧ ∀ b, h.blk b → w.heap.size ≤ b) (ha : Apart [f, g, h]) (hb : Below w.heap.size w w') : XRs w w' (.returned v) F G :=
  ⟨y, by rw [hv], fun k hk => by
    rw [hG] at hk
    simp only [List.mem_cons, List.not_mem_nil, or_false] at hk
    rcases hk with rfl | rfl | rfl
    · exact p
    · exact q
    · exact s, by rw [hG]; exact ha, hb⟩
theorem Apart.sub3 {fs : List Fact} (h : Apart fs) (m : List Nat) {f g k f' g' k' : Fact} (hp : pickF fs m = some [f, g, k]) (hm : nodupB m = true) (o1 : f.own = true) (o2 : g.own = true) (o3 : k.own = true) (h1 : ∀ b, f'.blk b → f.blk b) (h2 : ∀ b, g'.blk b → g.blk b) (h3 : ∀ b, k'.blk b → k.blk b) : Apart [f', g', k'] := by
  have h0 := apart_iff.1 (h.pickN m hm hp)
  simp only [List.pairwise_cons, List.mem_cons, List.not_mem_nil, or_false, forall_eq_or_imp, forall_eq] at h0
  obtain ⟨⟨a1, a2⟩, a3, -⟩ := h0
  have sub : ∀ {x y x' y' : Fact}, x.own = true → y.own = true → ApR x y → (∀ b, x'.blk b → x.blk b) → (∀ b, y'.blk b → y.blk b) → ApR x' y' := fun ox oy hr hx hy =>
    ⟨fun _ b hb hb' => hr.1 ox b (hx b hb) (hy b hb'), fun _ b hb hb' => hr.2 oy b (hy b hb) (hx b hb')⟩
  rw [apart_iff]
  refine List.pairwise_cons.2 ⟨fun z hz => ?_, List.pairwise_cons.2 ⟨fun z hz => ?_, List.pairwise_singleton _ _⟩⟩
  · simp only [List.mem_cons, List.not_mem_nil, or_false] at hz
    rcases hz with rfl | rfl
    · exact sub o1 o2 a1 h1 h2
    · exact sub o1 o3 a2 h1 h3
  · obtain rfl : z = k' := by simpa using hz
    exact sub o2 o3 a3 h2 h3
end
/- Sizes of tables (the laws' first measure). -/
section
open Go.RowKit
set_option linter.unusedVariables false
def szP (left r : Int) (c : List CV) : Prop := r = -1 ∨ (0 ≤ r ∧ r ≤ left ∧ (c.length : Int) ≤ left ∧ ∀ x ∈ c, ConFit left x.1)
theorem ConFit.mono {n m : Int} {c : Con} (h : ConFit n c) (hm : n ≤ m) : ConFit m c := ⟨by have := h.1; omega, by have := h.2.1; omega, by have := h.2.2.1; omega, fun p hp => by have := h.2.2.2 p hp; omega⟩
theorem ConFit.fit {n : Int} {c : Con} (h : ConFit n c) (hm : n ≤ 1048576) : cX c := ⟨by have := h.1; omega, by have := h.2.1; omega, by have := h.2.2.1; omega, fun p hp => by have := h.2.2.2 p hp; omega⟩
theorem sz_step {c : List CV} {n : Int} {k : Nat} {x : CV} (hx : c[k]? = some x) (h : ConFit n x.1) (hk : ∀ (i : Nat) (x : CV), i < k → c[i]? = some x → ConFit n x.1) : ∀ (i : Nat) (x : CV), i < k + 1 → c[i]? = some x → ConFit n x.1 := fun i y hi hy => by
  rcases Nat.lt_succ_iff_lt_or_eq.1 hi with hi | rfl
  · exact hk i y hi hy
  · rw [hx] at hy; simp only [Option.some.injEq] at hy; subst hy; exact h
theorem sz_all {c : List CV} {n : Int} {k : Nat} (hk : k = c.length) (h : ∀ (i : Nat) (x : CV), i < k → c[i]? = some x → ConFit n x.1) : ∀ x ∈ c, ConFit n x.1 := fun x hx => by
  obtain ⟨i, hi⟩ := List.getElem?_of_mem hx
  exact h i x (by rw [hk]; exact (List.getElem?_eq_some_iff.1 hi).1) hi
end
/- Contracts: slices of Tuple in the laws. -/
section
open Go.RowKit
attribute [local go_sem] cm cl ck cj bj bY bi bl bf bg bc ba bh bd bn bo bm a8 cell?_grow frozen?_grow aU bw b0
attribute [local go_sem] ae al b5 aC aK af ak aA aD aJ bv ct ap ar aa ab
set_option linter.unusedVariables false
set_option linter.unusedSimpArgs false
theorem tupRows_len (l : List Tup) : ∀ r ∈ l.map ay, r.length = 3 := fun r h => by obtain ⟨x, -, rfl⟩ := List.mem_map.1 h; rfl
theorem szTupleS_c (v : Value) (l : List Tup) (left : Int) (w : World) (hl : Sl w v 3 (l.map ay)) (h0 : 0 ≤ left) (h1 : left ≤ 1048576) : Calls Try.prog 58 #[v, .int .i64 left] w fun e w' => e = .returned (.int .i64 (if left < l.length then -1 else left - l.length)) ∧ w = w' := by
  obtain ⟨a, cap, rfl, h2, h3, h4, h5⟩ := hl
  simp only [List.length_map] at h2 ⊢
  unfold maxLen at h3
  have H5 := Lib.hid h5; clear h5
  by_cases h : left < l.length
  all_goals
    go_enter Try.func58, Try.ntmps58
    go_wp2
    refine bodyPost_ret (v := .int .i64 (if left < l.length then -1 else left - l.length)) (by first | (simp [results, Try.results58, *]; done) | (simp [results, Try.results58, *]; omega)) rfl ⟨by first | rfl | (split <;> first | rfl | (exfalso; omega)), rfl⟩
theorem Try.info_Tuple : (Try.prog.info? 62).map (fun i => (i.zero, i.size, i.bytes)) = some (some (.agg #[.int .i64 0, .int .i64 0, .int .i64 0]), 3, 24) := by kernel_rfl
set_option maxRecDepth 100000 in
set_option maxHeartbeats 1000000 in
theorem toTupleS_c (v : Value) (l : List Tup) (w : World) (hl : Sl w v 3 (l.map ay)) (hn : l.length ≤ 1048576) : Calls Try.prog 64 #[v] w fun e w' => ∃ v', e = .returned v' ∧ Own w' w.heap.size v' 3 (l.map ay) ∧ Below w.heap.size w w' := by
  obtain ⟨a, cap, rfl, h2, h3, h4, h5⟩ := hl
  simp only [List.length_map] at h2 ⊢
  unfold maxLen at h3
  have H5 := Lib.hid h5; clear h5
  obtain ⟨i0, hi, hz0, hz1, hz2⟩ := info_parts Try.info_Tuple
  have his : (Try.prog.info? 62).map (·.size) = some 3 := by rw [hi]; simp [hz1]
  have HI := Lib.hid hi; clear hi
  go_enter Try.func64, Try.ntmps64
  go_wp2_with ((refine wpList_make_full _ rfl _ _ 47 rfl w.heap.size 62 i0 _ 3 Try.underlying47 HI.out hz0 hz1 .i64 .i64 _ _ l.length (by rfl) (by rfl) (by rfl) (by rfl) (by rw [hz2]; omega) (by unfold maxLen; omega) (Nat.le_refl _) ?_); intro w1 hown hgrow)
  have hF : Fill w1 w.heap.size l.length 3 (l.map ay) 0 := Fill.start hown
  have hB : Below w.heap.size w w1 := (Below.refl _ _).grown hgrow (Nat.le_refl _) (fun k h => by simp at h)
  have hsz : w.heap.size < w1.heap.size := by
    rcases hown.2 with ⟨h, _⟩ | ⟨g, cap, cur, h, _, hh, _⟩
    · simp at h
    · simp at h; obtain ⟨rfl, rfl⟩ := h; exact (Array.getElem?_eq_some_iff.1 hh).1
  clear hown hgrow
  go_loopw [4] (fun i wr => ∃ k : Nat, k ≤ l.length ∧ i = .int .i64 k ∧ Below w.heap.size w wr ∧ w.heap.size < wr.heap.size ∧ Hid (Fill wr w.heap.size l.length 3 (l.map ay) k)) (fun i _ => l.length - (intOf i).toNat)
  case atStart => exact ⟨0, Nat.zero_le _, rfl, hB, hsz, hF⟩
  case round =>
    clear hF hB hsz
    obtain ⟨k, hk, rfl, hB, hsz, hF⟩ := hrel
    by_cases hlt : k < l.length
    · obtain ⟨x, hx⟩ : ∃ x, l[k]? = some x := ⟨_, List.getElem?_eq_getElem hlt⟩
      obtain ⟨b, off, rfl, hbw, hr⟩ := H5.out k (ay x) (by simp [hx])
      have hr := Below.rangeAt hB hbw hr
      have hrow : (l.map ay)[k]? = some (ay x) := by simp [hx]
      have HX := Lib.hid hrow; clear hx hrow
      obtain ⟨x_ip, x_port, x_my⟩ := x
      have c0 := hr 0 _ rfl
      have c1 := hr 1 _ rfl
      have c2 := hr 2 _ rfl
      simp only [Nat.add_zero] at c0
      clear hr
      have hk0 : (0 : Int) ≤ (k : Int) := Int.natCast_nonneg _
      have hk1 : (k : Int) < (l.length : Int) := by omega
      go_wp2_with (go_at_call 13; with_reducible refine (dw _ _ _ _).mono ?_; rintro e w2 ⟨rfl, hb2⟩; have hF2 := Lib.hid (hF.out.below hb2 hsz); obtain ⟨⟨o0, ho0⟩, ff0⟩ := Fill.old hF2.out hlt 0 (by omega); obtain ⟨⟨o1, ho1⟩, ff1⟩ := Fill.old hF2.out hlt 1 (by omega); obtain ⟨⟨o2, ho2⟩, ff2⟩ := Fill.old hF2.out hlt 2 (by omega); simp only [Nat.add_zero] at ho0 ff0)
      have hst := hF2.out.step (tupRows_len l) HX.out (by simp)
      have hB2 : Below w.heap.size w (w2.setCells w.heap.size (k * 3) (ay ⟨x_ip, x_port, x_my⟩)) := Below.setCells (Nat.le_refl _) _ _ (hB.trans (hb2.mono (by omega)))
      have hs2 : w.heap.size < (w2.setCells w.heap.size (k * 3) (ay ⟨x_ip, x_port, x_my⟩)).heap.size := by rw [cq]; have := hb2.size; omega
      have HS := Lib.hid hst; clear hst
      go_wp2
      go_roundw
      case rel => exact ⟨k + 1, by omega, by go_num, hB2, hs2, HS.out⟩
      case measure => simp [intOf]; omega
    · obtain rfl : k = l.length := by omega
      go_wp2
      refine bodyPost_ret (by simp [results, Try.results64]) rfl ⟨_, rfl, hF.out.own (by simp) (Nat.le_refl _) hsz (by unfold maxLen; omega), hB⟩
set_option maxHeartbeats 1000000 in
theorem eqTupleS_c (v u : Value) (l : List Tup) (w : World) (hl : Sl w v 3 (l.map ay)) (hu : Sl w u 3 (l.map ay)) : Calls Try.prog 73 #[v, u] w fun e w' => e = .returned (.bool true) ∧ Below w.heap.size w w' := by
  obtain ⟨a, cap, rfl, h2, h3, h4, h5⟩ := hl
  obtain ⟨a', cap', rfl, h2', h3', h4', h5'⟩ := hu
  simp only [List.length_map] at h2 h2' ⊢
  unfold maxLen at h3 h3'
  have H5 := Lib.hid h5; clear h5
  have H5' := Lib.hid h5'; clear h5'
  go_enter Try.func73, Try.ntmps73
  go_wp2
  go_loopw [5] (fun i wr => ∃ k : Nat, k ≤ l.length ∧ i = .int .i64 k ∧ Below w.heap.size w wr) (fun i _ => l.length - (intOf i).toNat)
  case atStart => exact ⟨0, Nat.zero_le _, rfl, Below.refl _ _⟩
  case round =>
    obtain ⟨k, hk, rfl, hB⟩ := hrel
    by_cases hlt : k < l.length
    · obtain ⟨x, hx⟩ : ∃ x, l[k]? = some x := ⟨_, List.getElem?_eq_getElem hlt⟩
      obtain ⟨b, off, rfl, hbw, hr⟩ := H5.out k (ay x) (by simp [hx])
      obtain ⟨b', off', rfl, hbw', hr'⟩ := H5'.out k (ay x) (by simp [hx])
      have hr := Below.rangeAt hB hbw hr
      have hr' := Below.rangeAt hB hbw' hr'
      have hbz : b < wr.heap.size := by have := hB.size; omega
      have hbz' : b' < wr.heap.size := by have := hB.size; omega
      clear hx
      have hk0 : (0 : Int) ≤ (k : Int) := Int.natCast_nonneg _
      have hk1 : (k : Int) < (l.length : Int) := by omega
      have hBs := hB.size
      obtain ⟨x_ip, x_port, x_my⟩ := x
      have c0 := hr 0 _ rfl
      have c1 := hr 1 _ rfl
      have c2 := hr 2 _ rfl
      have d0 := hr' 0 _ rfl
      have d1 := hr' 1 _ rfl
      have d2 := hr' 2 _ rfl
      simp only [Nat.add_zero] at c0 d0
      clear hr hr'
      go_wp2
      go_region_held3 (fun w' => w'.cell? ⟨b, off + k * 3, none⟩ = some (.int .i64 x_ip) ∧ w'.cell? ⟨b, off + k * 3 + 1, none⟩ = some (.int .i64 x_port) ∧ w'.cell? ⟨b, off + k * 3 + 2, none⟩ = some (.int .i64 x_my) ∧ w'.cell? ⟨b', off' + k * 3, none⟩ = some (.int .i64 x_ip) ∧ w'.cell? ⟨b', off' + k * 3 + 1, none⟩ = some (.int .i64 x_port) ∧ w'.cell? ⟨b', off' + k * 3 + 2, none⟩ = some (.int .i64 x_my))
        (first | exact ⟨(hb2.cell (p := ⟨b, _, none⟩) hbz).trans c0, (hb2.cell (p := ⟨b, _, none⟩) hbz).trans c1, (hb2.cell (p := ⟨b, _, none⟩) hbz).trans c2, (hb2.cell (p := ⟨b', _, none⟩) hbz').trans d0, (hb2.cell (p := ⟨b', _, none⟩) hbz').trans d1, (hb2.cell (p := ⟨b', _, none⟩) hbz').trans d2⟩ | go_keep)
        (first | (go_at_call 105; refine (eqTuple_c x_ip x_port x_my _).mono ?_; rintro e w2 ⟨rfl, hb2⟩))
      go_wp2
      go_roundw
      case rel => exact ⟨k + 1, by omega, by go_num, by (repeat' (first | (with_reducible exact Below.refl _ _) | (with_reducible refine Below.alloc ?_ ?_ _) | (with_reducible refine au ?_ ?_ _ _) | (with_reducible refine Below.setCell ?_ ?_ _) | (with_reducible refine Below.drew ?_) | (with_reducible refine aT ?_ _) | (with_reducible assumption) | (with_reducible refine aF ?_ (by assumption) ?_) | (simp only [World.size_alloc, World.size_setCell, World.size_drew, World.heap_drewN, a8]; done) | (simp only [World.size_alloc, World.size_setCell, World.size_drew, World.heap_drewN, a8]; omega) | omega))⟩
      case measure => simp [intOf]; omega
    · obtain rfl : k = l.length := by omega
      go_wp2
      refine bodyPost_ret (v := .bool true) (by simp [results, Try.results73]) rfl ⟨rfl, hB⟩
end
/- Contracts: slices of MacRow in the laws. -/
section
open Go.RowKit
attribute [local go_sem] cm cl ck cj bj bY bi bl bf bg bc ba bh bd bn bo bm a8 cell?_grow frozen?_grow aU bw b0
attribute [local go_sem] ae al b5 aC aK af ak aA aD aJ bv ct ap ar aa ab
set_option linter.unusedVariables false
set_option linter.unusedSimpArgs false
theorem mrwRows_len (l : List Mrw) : ∀ r ∈ l.map a6, r.length = 2 := fun r h => by obtain ⟨x, -, rfl⟩ := List.mem_map.1 h; rfl
theorem Try.info_MacRow : (Try.prog.info? 141).map (fun i => (i.zero, i.size, i.bytes)) = some (some (.agg #[.string ⟨#[]⟩, .int .i64 0]), 2, 24) := by kernel_rfl
set_option maxRecDepth 100000 in
set_option maxHeartbeats 1000000 in
theorem toMacRowS_c (v : Value) (l : List Mrw) (w : World) (hl : Sl w v 2 (l.map a6)) (hn : l.length ≤ 1048576) : Calls Try.prog 100 #[v] w fun e w' => ∃ v', e = .returned v' ∧ Own w' w.heap.size v' 2 (l.map a6) ∧ Below w.heap.size w w' := by
  obtain ⟨a, cap, rfl, h2, h3, h4, h5⟩ := hl
  simp only [List.length_map] at h2 ⊢
  unfold maxLen at h3
  have H5 := Lib.hid h5; clear h5
  obtain ⟨i0, hi, hz0, hz1, hz2⟩ := info_parts Try.info_MacRow
  have his : (Try.prog.info? 141).map (·.size) = some 2 := by rw [hi]; simp [hz1]
  have HI := Lib.hid hi; clear hi
  go_enter Try.func100, Try.ntmps100
  go_wp2_with ((refine wpList_make_full _ rfl _ _ 39 rfl w.heap.size 141 i0 _ 2 Try.underlying39 HI.out hz0 hz1 .i64 .i64 _ _ l.length (by rfl) (by rfl) (by rfl) (by rfl) (by rw [hz2]; omega) (by unfold maxLen; omega) (Nat.le_refl _) ?_); intro w1 hown hgrow)
  have hF : Fill w1 w.heap.size l.length 2 (l.map a6) 0 := Fill.start hown
  have hB : Below w.heap.size w w1 := (Below.refl _ _).grown hgrow (Nat.le_refl _) (fun k h => by simp at h)
  have hsz : w.heap.size < w1.heap.size := by
    rcases hown.2 with ⟨h, _⟩ | ⟨g, cap, cur, h, _, hh, _⟩
    · simp at h
    · simp at h; obtain ⟨rfl, rfl⟩ := h; exact (Array.getElem?_eq_some_iff.1 hh).1
  clear hown hgrow
  go_loopw [4] (fun i wr => ∃ k : Nat, k ≤ l.length ∧ i = .int .i64 k ∧ Below w.heap.size w wr ∧ w.heap.size < wr.heap.size ∧ Hid (Fill wr w.heap.size l.length 2 (l.map a6) k)) (fun i _ => l.length - (intOf i).toNat)
  case atStart => exact ⟨0, Nat.zero_le _, rfl, hB, hsz, hF⟩
  case round =>
    clear hF hB hsz
    obtain ⟨k, hk, rfl, hB, hsz, hF⟩ := hrel
    by_cases hlt : k < l.length
    · obtain ⟨x, hx⟩ : ∃ x, l[k]? = some x := ⟨_, List.getElem?_eq_getElem hlt⟩
      obtain ⟨b, off, rfl, hbw, hr⟩ := H5.out k (a6 x) (by simp [hx])
      have hr := Below.rangeAt hB hbw hr
      have hrow : (l.map a6)[k]? = some (a6 x) := by simp [hx]
      have HX := Lib.hid hrow; clear hx hrow
      obtain ⟨x_input, x_value⟩ := x
      have c0 := hr 0 _ rfl
      have c1 := hr 1 _ rfl
      simp only [Nat.add_zero] at c0
      clear hr
      have hk0 : (0 : Int) ≤ (k : Int) := Int.natCast_nonneg _
      have hk1 : (k : Int) < (l.length : Int) := by omega
      go_wp2_with (go_at_call 123; with_reducible refine (toMacRow_c _ _ _).mono ?_; rintro e w2 ⟨rfl, hb2⟩; have hF2 := Lib.hid (hF.out.below hb2 hsz); obtain ⟨⟨o0, ho0⟩, ff0⟩ := Fill.old hF2.out hlt 0 (by omega); obtain ⟨⟨o1, ho1⟩, ff1⟩ := Fill.old hF2.out hlt 1 (by omega); simp only [Nat.add_zero] at ho0 ff0)
      have hst := hF2.out.step (mrwRows_len l) HX.out (by simp)
      have hB2 : Below w.heap.size w (w2.setCells w.heap.size (k * 2) (a6 ⟨x_input, x_value⟩)) := Below.setCells (Nat.le_refl _) _ _ (hB.trans (hb2.mono (by omega)))
      have hs2 : w.heap.size < (w2.setCells w.heap.size (k * 2) (a6 ⟨x_input, x_value⟩)).heap.size := by rw [cq]; have := hb2.size; omega
      have HS := Lib.hid hst; clear hst
      go_wp2
      go_roundw
      case rel => exact ⟨k + 1, by omega, by go_num, hB2, hs2, HS.out⟩
      case measure => simp [intOf]; omega
    · obtain rfl : k = l.length := by omega
      go_wp2
      refine bodyPost_ret (by simp [results, Try.results100]) rfl ⟨_, rfl, hF.out.own (by simp) (Nat.le_refl _) hsz (by unfold maxLen; omega), hB⟩
set_option maxHeartbeats 1000000 in
theorem eqMacRowS_c (v u : Value) (l : List Mrw) (w : World) (hl : Sl w v 2 (l.map a6)) (hu : Sl w u 2 (l.map a6)) : Calls Try.prog 104 #[v, u] w fun e w' => e = .returned (.bool true) ∧ Below w.heap.size w w' := by
  obtain ⟨a, cap, rfl, h2, h3, h4, h5⟩ := hl
  obtain ⟨a', cap', rfl, h2', h3', h4', h5'⟩ := hu
  simp only [List.length_map] at h2 h2' ⊢
  unfold maxLen at h3 h3'
  have H5 := Lib.hid h5; clear h5
  have H5' := Lib.hid h5'; clear h5'
  go_enter Try.func104, Try.ntmps104
  go_wp2
  go_loopw [5] (fun i wr => ∃ k : Nat, k ≤ l.length ∧ i = .int .i64 k ∧ Below w.heap.size w wr) (fun i _ => l.length - (intOf i).toNat)
  case atStart => exact ⟨0, Nat.zero_le _, rfl, Below.refl _ _⟩
  case round =>
    obtain ⟨k, hk, rfl, hB⟩ := hrel
    by_cases hlt : k < l.length
    · obtain ⟨x, hx⟩ : ∃ x, l[k]? = some x := ⟨_, List.getElem?_eq_getElem hlt⟩
      obtain ⟨b, off, rfl, hbw, hr⟩ := H5.out k (a6 x) (by simp [hx])
      obtain ⟨b', off', rfl, hbw', hr'⟩ := H5'.out k (a6 x) (by simp [hx])
      have hr := Below.rangeAt hB hbw hr
      have hr' := Below.rangeAt hB hbw' hr'
      have hbz : b < wr.heap.size := by have := hB.size; omega
      have hbz' : b' < wr.heap.size := by have := hB.size; omega
      clear hx
      have hk0 : (0 : Int) ≤ (k : Int) := Int.natCast_nonneg _
      have hk1 : (k : Int) < (l.length : Int) := by omega
      have hBs := hB.size
      obtain ⟨x_input, x_value⟩ := x
      have c0 := hr 0 _ rfl
      have c1 := hr 1 _ rfl
      have d0 := hr' 0 _ rfl
      have d1 := hr' 1 _ rfl
      simp only [Nat.add_zero] at c0 d0
      clear hr hr'
      go_wp2
      go_region_held3 (fun w' => w'.cell? ⟨b, off + k * 2, none⟩ = some (.string x_input) ∧ w'.cell? ⟨b, off + k * 2 + 1, none⟩ = some (.int .i64 x_value) ∧ w'.cell? ⟨b', off' + k * 2, none⟩ = some (.string x_input) ∧ w'.cell? ⟨b', off' + k * 2 + 1, none⟩ = some (.int .i64 x_value))
        (first | exact ⟨(hb2.cell (p := ⟨b, _, none⟩) hbz).trans c0, (hb2.cell (p := ⟨b, _, none⟩) hbz).trans c1, (hb2.cell (p := ⟨b', _, none⟩) hbz').trans d0, (hb2.cell (p := ⟨b', _, none⟩) hbz').trans d1⟩ | go_keep)
        (first | (go_at_call 127; refine (eqMacRow_c x_input x_value _).mono ?_; rintro e w2 ⟨rfl, hb2⟩))
      go_wp2
      go_roundw
      case rel => exact ⟨k + 1, by omega, by go_num, by (repeat' (first | (with_reducible exact Below.refl _ _) | (with_reducible refine Below.alloc ?_ ?_ _) | (with_reducible refine au ?_ ?_ _ _) | (with_reducible refine Below.setCell ?_ ?_ _) | (with_reducible refine Below.drew ?_) | (with_reducible refine aT ?_ _) | (with_reducible assumption) | (with_reducible refine aF ?_ (by assumption) ?_) | (simp only [World.size_alloc, World.size_setCell, World.size_drew, World.heap_drewN, a8]; done) | (simp only [World.size_alloc, World.size_setCell, World.size_drew, World.heap_drewN, a8]; omega) | omega))⟩
      case measure => simp [intOf]; omega
    · obtain rfl : k = l.length := by omega
      go_wp2
      refine bodyPost_ret (v := .bool true) (by simp [results, Try.results104]) rfl ⟨rfl, hB⟩
end
/- Contracts: slices of Half in the laws. -/
section
open Go.RowKit
attribute [local go_sem] cm cl ck cj bj bY bi bl bf bg bc ba bh bd bn bo bm a8 cell?_grow frozen?_grow aU bw b0
attribute [local go_sem] ae al b5 aC aK af ak aA aD aJ bv ct ap ar aa ab
set_option linter.unusedVariables false
set_option linter.unusedSimpArgs false
theorem hlfRows_len (l : List Hlf) : ∀ r ∈ l.map av, r.length = 13 := fun r h => by obtain ⟨x, -, rfl⟩ := List.mem_map.1 h; rfl
theorem szHalfS_c (v : Value) (l : List Hlf) (left : Int) (w : World) (hl : Sl w v 13 (l.map av)) (h0 : 0 ≤ left) (h1 : left ≤ 1048576) : Calls Try.prog 19 #[v, .int .i64 left] w fun e w' => e = .returned (.int .i64 (if left < l.length then -1 else left - l.length)) ∧ w = w' := by
  obtain ⟨a, cap, rfl, h2, h3, h4, h5⟩ := hl
  simp only [List.length_map] at h2 ⊢
  unfold maxLen at h3
  have H5 := Lib.hid h5; clear h5
  by_cases h : left < l.length
  all_goals
    go_enter Try.func19, Try.ntmps19
    go_wp2
    refine bodyPost_ret (v := .int .i64 (if left < l.length then -1 else left - l.length)) (by first | (simp [results, Try.results19, *]; done) | (simp [results, Try.results19, *]; omega)) rfl ⟨by first | rfl | (split <;> first | rfl | (exfalso; omega)), rfl⟩
theorem Try.info_Half : (Try.prog.info? 94).map (fun i => (i.zero, i.size, i.bytes)) = some (some (.agg #[.int .i64 0, .int .i64 0, .int .i64 0, .int .i64 0, .int .i64 0, .int .i64 0, .int .i64 0, .bool false, .bool false, .int .i64 0, .int .i64 0, .int .i64 0, .int .i64 0]), 13, 96) := by kernel_rfl
set_option maxRecDepth 100000 in
set_option maxHeartbeats 1000000 in
theorem toHalfS_c (v : Value) (l : List Hlf) (w : World) (hl : Sl w v 13 (l.map av)) (hn : l.length ≤ 1048576) : Calls Try.prog 26 #[v] w fun e w' => ∃ v', e = .returned v' ∧ Own w' w.heap.size v' 13 (l.map av) ∧ Below w.heap.size w w' := by
  obtain ⟨a, cap, rfl, h2, h3, h4, h5⟩ := hl
  simp only [List.length_map] at h2 ⊢
  unfold maxLen at h3
  have H5 := Lib.hid h5; clear h5
  obtain ⟨i0, hi, hz0, hz1, hz2⟩ := info_parts Try.info_Half
  have his : (Try.prog.info? 94).map (·.size) = some 13 := by rw [hi]; simp [hz1]
  have HI := Lib.hid hi; clear hi
  go_enter Try.func26, Try.ntmps26
  go_wp2_with ((refine wpList_make_full _ rfl _ _ 45 rfl w.heap.size 94 i0 _ 13 Try.underlying45 HI.out hz0 hz1 .i64 .i64 _ _ l.length (by rfl) (by rfl) (by rfl) (by rfl) (by rw [hz2]; omega) (by unfold maxLen; omega) (Nat.le_refl _) ?_); intro w1 hown hgrow)
  have hF : Fill w1 w.heap.size l.length 13 (l.map av) 0 := Fill.start hown
  have hB : Below w.heap.size w w1 := (Below.refl _ _).grown hgrow (Nat.le_refl _) (fun k h => by simp at h)
  have hsz : w.heap.size < w1.heap.size := by
    rcases hown.2 with ⟨h, _⟩ | ⟨g, cap, cur, h, _, hh, _⟩
    · simp at h
    · simp at h; obtain ⟨rfl, rfl⟩ := h; exact (Array.getElem?_eq_some_iff.1 hh).1
  clear hown hgrow
  go_loopw [4] (fun i wr => ∃ k : Nat, k ≤ l.length ∧ i = .int .i64 k ∧ Below w.heap.size w wr ∧ w.heap.size < wr.heap.size ∧ Hid (Fill wr w.heap.size l.length 13 (l.map av) k)) (fun i _ => l.length - (intOf i).toNat)
  case atStart => exact ⟨0, Nat.zero_le _, rfl, hB, hsz, hF⟩
  case round =>
    clear hF hB hsz
    obtain ⟨k, hk, rfl, hB, hsz, hF⟩ := hrel
    by_cases hlt : k < l.length
    · obtain ⟨x, hx⟩ : ∃ x, l[k]? = some x := ⟨_, List.getElem?_eq_getElem hlt⟩
      obtain ⟨b, off, rfl, hbw, hr⟩ := H5.out k (av x) (by simp [hx])
      have hr := Below.rangeAt hB hbw hr
      have hrow : (l.map av)[k]? = some (av x) := by simp [hx]
      have HX := Lib.hid hrow; clear hx hrow
      obtain ⟨⟨x_t_ip, x_t_port, x_t_my⟩, x_iss, x_irs, ⟨x_o_mss, x_o_scale, x_o_sack, x_o_stamp, x_o_val, x_o_echo⟩, x_age, x_window⟩ := x
      have c0 := hr 0 _ rfl
      have c1 := hr 1 _ rfl
      have c2 := hr 2 _ rfl
      have c3 := hr 3 _ rfl
      have c4 := hr 4 _ rfl
      have c5 := hr 5 _ rfl
      have c6 := hr 6 _ rfl
      have c7 := hr 7 _ rfl
      have c8 := hr 8 _ rfl
      have c9 := hr 9 _ rfl
      have c10 := hr 10 _ rfl
      have c11 := hr 11 _ rfl
      have c12 := hr 12 _ rfl
      simp only [Nat.add_zero] at c0
      clear hr
      have hk0 : (0 : Int) ≤ (k : Int) := Int.natCast_nonneg _
      have hk1 : (k : Int) < (l.length : Int) := by omega
      go_wp2_with (go_at_call 62; with_reducible refine (toHalf_c _ _ _ _ _ _ _ _ _ _ _ _ _ _).mono ?_; rintro e w2 ⟨rfl, hb2⟩; have hF2 := Lib.hid (hF.out.below hb2 hsz); obtain ⟨⟨o0, ho0⟩, ff0⟩ := Fill.old hF2.out hlt 0 (by omega); obtain ⟨⟨o1, ho1⟩, ff1⟩ := Fill.old hF2.out hlt 1 (by omega); obtain ⟨⟨o2, ho2⟩, ff2⟩ := Fill.old hF2.out hlt 2 (by omega); obtain ⟨⟨o3, ho3⟩, ff3⟩ := Fill.old hF2.out hlt 3 (by omega); obtain ⟨⟨o4, ho4⟩, ff4⟩ := Fill.old hF2.out hlt 4 (by omega); obtain ⟨⟨o5, ho5⟩, ff5⟩ := Fill.old hF2.out hlt 5 (by omega); obtain ⟨⟨o6, ho6⟩, ff6⟩ := Fill.old hF2.out hlt 6 (by omega); obtain ⟨⟨o7, ho7⟩, ff7⟩ := Fill.old hF2.out hlt 7 (by omega); obtain ⟨⟨o8, ho8⟩, ff8⟩ := Fill.old hF2.out hlt 8 (by omega); obtain ⟨⟨o9, ho9⟩, ff9⟩ := Fill.old hF2.out hlt 9 (by omega); obtain ⟨⟨o10, ho10⟩, ff10⟩ := Fill.old hF2.out hlt 10 (by omega); obtain ⟨⟨o11, ho11⟩, ff11⟩ := Fill.old hF2.out hlt 11 (by omega); obtain ⟨⟨o12, ho12⟩, ff12⟩ := Fill.old hF2.out hlt 12 (by omega); simp only [Nat.add_zero] at ho0 ff0)
      have hst := hF2.out.step (hlfRows_len l) HX.out (by simp)
      have hB2 : Below w.heap.size w (w2.setCells w.heap.size (k * 13) (av ⟨⟨x_t_ip, x_t_port, x_t_my⟩, x_iss, x_irs, ⟨x_o_mss, x_o_scale, x_o_sack, x_o_stamp, x_o_val, x_o_echo⟩, x_age, x_window⟩)) := Below.setCells (Nat.le_refl _) _ _ (hB.trans (hb2.mono (by omega)))
      have hs2 : w.heap.size < (w2.setCells w.heap.size (k * 13) (av ⟨⟨x_t_ip, x_t_port, x_t_my⟩, x_iss, x_irs, ⟨x_o_mss, x_o_scale, x_o_sack, x_o_stamp, x_o_val, x_o_echo⟩, x_age, x_window⟩)).heap.size := by rw [cq]; have := hb2.size; omega
      have HS := Lib.hid hst; clear hst
      go_wp2
      go_roundw
      case rel => exact ⟨k + 1, by omega, by go_num, hB2, hs2, HS.out⟩
      case measure => simp [intOf]; omega
    · obtain rfl : k = l.length := by omega
      go_wp2
      refine bodyPost_ret (by simp [results, Try.results26]) rfl ⟨_, rfl, hF.out.own (by simp) (Nat.le_refl _) hsz (by unfold maxLen; omega), hB⟩
set_option maxHeartbeats 1000000 in
theorem eqHalfS_c (v u : Value) (l : List Hlf) (w : World) (hl : Sl w v 13 (l.map av)) (hu : Sl w u 13 (l.map av)) : Calls Try.prog 33 #[v, u] w fun e w' => e = .returned (.bool true) ∧ Below w.heap.size w w' := by
  obtain ⟨a, cap, rfl, h2, h3, h4, h5⟩ := hl
  obtain ⟨a', cap', rfl, h2', h3', h4', h5'⟩ := hu
  simp only [List.length_map] at h2 h2' ⊢
  unfold maxLen at h3 h3'
  have H5 := Lib.hid h5; clear h5
  have H5' := Lib.hid h5'; clear h5'
  go_enter Try.func33, Try.ntmps33
  go_wp2
  go_loopw [5] (fun i wr => ∃ k : Nat, k ≤ l.length ∧ i = .int .i64 k ∧ Below w.heap.size w wr) (fun i _ => l.length - (intOf i).toNat)
  case atStart => exact ⟨0, Nat.zero_le _, rfl, Below.refl _ _⟩
  case round =>
    obtain ⟨k, hk, rfl, hB⟩ := hrel
    by_cases hlt : k < l.length
    · obtain ⟨x, hx⟩ : ∃ x, l[k]? = some x := ⟨_, List.getElem?_eq_getElem hlt⟩
      obtain ⟨b, off, rfl, hbw, hr⟩ := H5.out k (av x) (by simp [hx])
      obtain ⟨b', off', rfl, hbw', hr'⟩ := H5'.out k (av x) (by simp [hx])
      have hr := Below.rangeAt hB hbw hr
      have hr' := Below.rangeAt hB hbw' hr'
      have hbz : b < wr.heap.size := by have := hB.size; omega
      have hbz' : b' < wr.heap.size := by have := hB.size; omega
      clear hx
      have hk0 : (0 : Int) ≤ (k : Int) := Int.natCast_nonneg _
      have hk1 : (k : Int) < (l.length : Int) := by omega
      have hBs := hB.size
      obtain ⟨⟨x_t_ip, x_t_port, x_t_my⟩, x_iss, x_irs, ⟨x_o_mss, x_o_scale, x_o_sack, x_o_stamp, x_o_val, x_o_echo⟩, x_age, x_window⟩ := x
      have c0 := hr 0 _ rfl
      have c1 := hr 1 _ rfl
      have c2 := hr 2 _ rfl
      have c3 := hr 3 _ rfl
      have c4 := hr 4 _ rfl
      have c5 := hr 5 _ rfl
      have c6 := hr 6 _ rfl
      have c7 := hr 7 _ rfl
      have c8 := hr 8 _ rfl
      have c9 := hr 9 _ rfl
      have c10 := hr 10 _ rfl
      have c11 := hr 11 _ rfl
      have c12 := hr 12 _ rfl
      have d0 := hr' 0 _ rfl
      have d1 := hr' 1 _ rfl
      have d2 := hr' 2 _ rfl
      have d3 := hr' 3 _ rfl
      have d4 := hr' 4 _ rfl
      have d5 := hr' 5 _ rfl
      have d6 := hr' 6 _ rfl
      have d7 := hr' 7 _ rfl
      have d8 := hr' 8 _ rfl
      have d9 := hr' 9 _ rfl
      have d10 := hr' 10 _ rfl
      have d11 := hr' 11 _ rfl
      have d12 := hr' 12 _ rfl
      simp only [Nat.add_zero] at c0 d0
      clear hr hr'
      go_wp2
      go_region_held3 (fun w' => w'.cell? ⟨b, off + k * 13, none⟩ = some (.int .i64 x_t_ip) ∧ w'.cell? ⟨b, off + k * 13 + 1, none⟩ = some (.int .i64 x_t_port) ∧ w'.cell? ⟨b, off + k * 13 + 2, none⟩ = some (.int .i64 x_t_my) ∧ w'.cell? ⟨b, off + k * 13 + 3, none⟩ = some (.int .i64 x_iss) ∧ w'.cell? ⟨b, off + k * 13 + 4, none⟩ = some (.int .i64 x_irs) ∧ w'.cell? ⟨b, off + k * 13 + 5, none⟩ = some (.int .i64 x_o_mss) ∧ w'.cell? ⟨b, off + k * 13 + 6, none⟩ = some (.int .i64 x_o_scale) ∧ w'.cell? ⟨b, off + k * 13 + 7, none⟩ = some (.bool x_o_sack) ∧ w'.cell? ⟨b, off + k * 13 + 8, none⟩ = some (.bool x_o_stamp) ∧ w'.cell? ⟨b, off + k * 13 + 9, none⟩ = some (.int .i64 x_o_val) ∧ w'.cell? ⟨b, off + k * 13 + 10, none⟩ = some (.int .i64 x_o_echo) ∧ w'.cell? ⟨b, off + k * 13 + 11, none⟩ = some (.int .i64 x_age) ∧ w'.cell? ⟨b, off + k * 13 + 12, none⟩ = some (.int .i64 x_window) ∧ w'.cell? ⟨b', off' + k * 13, none⟩ = some (.int .i64 x_t_ip) ∧ w'.cell? ⟨b', off' + k * 13 + 1, none⟩ = some (.int .i64 x_t_port) ∧ w'.cell? ⟨b', off' + k * 13 + 2, none⟩ = some (.int .i64 x_t_my) ∧ w'.cell? ⟨b', off' + k * 13 + 3, none⟩ = some (.int .i64 x_iss) ∧ w'.cell? ⟨b', off' + k * 13 + 4, none⟩ = some (.int .i64 x_irs) ∧ w'.cell? ⟨b', off' + k * 13 + 5, none⟩ = some (.int .i64 x_o_mss) ∧ w'.cell? ⟨b', off' + k * 13 + 6, none⟩ = some (.int .i64 x_o_scale) ∧ w'.cell? ⟨b', off' + k * 13 + 7, none⟩ = some (.bool x_o_sack) ∧ w'.cell? ⟨b', off' + k * 13 + 8, none⟩ = some (.bool x_o_stamp) ∧ w'.cell? ⟨b', off' + k * 13 + 9, none⟩ = some (.int .i64 x_o_val) ∧ w'.cell? ⟨b', off' + k * 13 + 10, none⟩ = some (.int .i64 x_o_echo) ∧ w'.cell? ⟨b', off' + k * 13 + 11, none⟩ = some (.int .i64 x_age) ∧ w'.cell? ⟨b', off' + k * 13 + 12, none⟩ = some (.int .i64 x_window))
        (first | exact ⟨(hb2.cell (p := ⟨b, _, none⟩) hbz).trans c0, (hb2.cell (p := ⟨b, _, none⟩) hbz).trans c1, (hb2.cell (p := ⟨b, _, none⟩) hbz).trans c2, (hb2.cell (p := ⟨b, _, none⟩) hbz).trans c3, (hb2.cell (p := ⟨b, _, none⟩) hbz).trans c4, (hb2.cell (p := ⟨b, _, none⟩) hbz).trans c5, (hb2.cell (p := ⟨b, _, none⟩) hbz).trans c6, (hb2.cell (p := ⟨b, _, none⟩) hbz).trans c7, (hb2.cell (p := ⟨b, _, none⟩) hbz).trans c8, (hb2.cell (p := ⟨b, _, none⟩) hbz).trans c9, (hb2.cell (p := ⟨b, _, none⟩) hbz).trans c10, (hb2.cell (p := ⟨b, _, none⟩) hbz).trans c11, (hb2.cell (p := ⟨b, _, none⟩) hbz).trans c12, (hb2.cell (p := ⟨b', _, none⟩) hbz').trans d0, (hb2.cell (p := ⟨b', _, none⟩) hbz').trans d1, (hb2.cell (p := ⟨b', _, none⟩) hbz').trans d2, (hb2.cell (p := ⟨b', _, none⟩) hbz').trans d3, (hb2.cell (p := ⟨b', _, none⟩) hbz').trans d4, (hb2.cell (p := ⟨b', _, none⟩) hbz').trans d5, (hb2.cell (p := ⟨b', _, none⟩) hbz').trans d6, (hb2.cell (p := ⟨b', _, none⟩) hbz').trans d7, (hb2.cell (p := ⟨b', _, none⟩) hbz').trans d8, (hb2.cell (p := ⟨b', _, none⟩) hbz').trans d9, (hb2.cell (p := ⟨b', _, none⟩) hbz').trans d10, (hb2.cell (p := ⟨b', _, none⟩) hbz').trans d11, (hb2.cell (p := ⟨b', _, none⟩) hbz').trans d12⟩ | go_keep)
        (first | (go_at_call 71; refine (eqHalf_c x_t_ip x_t_port x_t_my x_iss x_irs x_o_mss x_o_scale x_o_sack x_o_stamp x_o_val x_o_echo x_age x_window _).mono ?_; rintro e w2 ⟨rfl, hb2⟩))
      go_wp2
      go_roundw
      case rel => exact ⟨k + 1, by omega, by go_num, by (repeat' (first | (with_reducible exact Below.refl _ _) | (with_reducible refine Below.alloc ?_ ?_ _) | (with_reducible refine au ?_ ?_ _ _) | (with_reducible refine Below.setCell ?_ ?_ _) | (with_reducible refine Below.drew ?_) | (with_reducible refine aT ?_ _) | (with_reducible assumption) | (with_reducible refine aF ?_ (by assumption) ?_) | (simp only [World.size_alloc, World.size_setCell, World.size_drew, World.heap_drewN, a8]; done) | (simp only [World.size_alloc, World.size_setCell, World.size_drew, World.heap_drewN, a8]; omega) | omega))⟩
      case measure => simp [intOf]; omega
    · obtain rfl : k = l.length := by omega
      go_wp2
      refine bodyPost_ret (v := .bool true) (by simp [results, Try.results33]) rfl ⟨rfl, hB⟩
end
/- Contracts: slices of connections in the laws. -/
section
open Go.RowKit
set_option linter.unusedVariables false
set_option linter.unusedSimpArgs false
set_option maxRecDepth 100000 in
theorem openSc_CON {H : Type} {enc : TypeId × Value → H} {W : World} {v : Value} {fuel : Nat} {x : DataW H × List MemPlace}
    (h : DataW.trod enc Try.prog W 0 (fun _ => true) true fuel 31 [v] = some x) : ∃ l : List CV, Sl W v 25 (l.map aQ) ∧ (∀ x ∈ l, Sl W x.2 2 (x.1.r.held.map pC)) ∧ ∀ x ∈ l, conMax x.1 := by
  have hc : Try.prog.cellsOf 139 = 25 := by kernel_rfl
  haveI : Inhabited CV := ⟨(⟨⟨0, 0, 0⟩, 0, ⟨0, ⟨#[]⟩, 0, false, false, false⟩, ⟨0, ⟨#[]⟩, [], 0, false⟩, 0, 0, ⟨0, 0, false, false, 0, 0⟩, 0, 0⟩, .slice none 0 0)⟩
  rcases Go.Deep.open_slice Try.underlying31 h with ⟨hcs, -⟩ | ⟨a, len, cap, m, n, D, Pl, hcs, hb, hl, hm, hmm, hx, hi⟩
  · simp only [List.cons.injEq, and_true] at hcs
    subst hcs
    exact ⟨[], Sl.nil W 25, by simp, by simp⟩
  · have hs : ∀ i, i < len → ∃ x : CV, W.cells? 0 (a.add (i * 25)) 25 = some (aQ x) ∧ Sl W x.2 2 (x.1.r.held.map pC) ∧ conMax x.1 := fun i hlt => by
      obtain ⟨cs', h1, h2⟩ := hi i (by simp at hmm; omega)
      rw [hc] at h1
      obtain ⟨a_t_ip, a_t_port, a_t_my, a_state, a_s_una, a_s_data, a_s_sent, a_s_fin, a_s_finSent, a_s_done, a_r_next, a_r_data, a_r_held_v, a_r_fin, a_r_done, a_window, a_most, a_o_mss, a_o_scale, a_o_sack, a_o_stamp, a_o_val, a_o_echo, a_timer, a_tries, rfl, -, -, -, -, -, hsd, -, -, hrd, ⟨_, _, hT⟩, -⟩ := open_CON h2
      obtain ⟨pcs, hP, hPm⟩ := openSc_PCE hT
      exact ⟨(⟨⟨a_t_ip, a_t_port, a_t_my⟩, a_state, ⟨a_s_una, a_s_data, a_s_sent, a_s_fin, a_s_finSent, a_s_done⟩, ⟨a_r_next, a_r_data, pcs, a_r_fin, a_r_done⟩, a_window, a_most, ⟨a_o_mss, a_o_scale, a_o_sack, a_o_stamp, a_o_val, a_o_echo⟩, a_timer, a_tries⟩, a_r_held_v), h1, hP, hsd, hrd, hPm⟩
    obtain ⟨f, hf⟩ := Go.Deep.choose_lt hs
    refine ⟨(List.range len).map f, ?_⟩
    simp only [List.cons.injEq, and_true] at hcs
    rw [hcs, List.map_map]
    exact ⟨Sl.of_open hl hm (by omega) (fun i h => (hf i h).1), fun p hp => by obtain ⟨i, hi, rfl⟩ := List.mem_map.1 hp; exact (hf i (List.mem_range.1 hi)).2.1, fun p hp => by obtain ⟨i, hi, rfl⟩ := List.mem_map.1 hp; exact (hf i (List.mem_range.1 hi)).2.2⟩
end
end Go.Proofs.Ytfidgfddgmppdaa
