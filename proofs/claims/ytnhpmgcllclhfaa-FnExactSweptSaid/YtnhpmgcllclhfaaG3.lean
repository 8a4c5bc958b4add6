/- Plain definitions, the machine and its rules: what this law's contracts need of them, part 3. -/
import Derived.Test.YtnhpmgcllclhfaaG1
import Derived.Test.YtnhpmgcllclhfaaA3
import Derived.Test.YtnhpmgcllclhfaaA4
import Derived.Test.YtnhpmgcllclhfaaA5
import Derived.Test.YtnhpmgcllclhfaaYW
import Derived.Test.YtnhpmgcllclhfaaG2
/- Contracts: slices of Piece in the laws. -/
namespace Go.Proofs.Ytnhpmgcllclhfaa
section
open Go.RowKit
attribute [local go_sem] dt dr du dv cz cr cq cv cu co cy cn ct cm bA cw cx a9 cell?_grow frozen?_grow aH bO bg
attribute [local go_sem] aN aW bh bf bt aO aX ba bc bv bN cM ai am aM aL
set_option linter.unusedVariables false
set_option linter.unusedSimpArgs false
theorem pceRows_len (l : List Pce) : ∀ r ∈ l.map pC, r.length = 2 := fun r h => by obtain ⟨x, -, rfl⟩ := List.mem_map.1 h; rfl
theorem Try.info_Piece : (Try.prog.info? 118).map (fun i => (i.zero, i.size, i.bytes)) = some (some (.agg #[.int .i64 0, .string ⟨#[]⟩]), 2, 24) := by kernel_rfl
set_option maxRecDepth 100000 in
set_option maxHeartbeats 1000000 in
theorem toPieceS_c (v : Value) (l : List Pce) (w : World) (hl : Sl w v 2 (l.map pC)) (hn : l.length ≤ 1048576) : Calls Try.prog 95 #[v] w fun e w' => ∃ v', e = .returned v' ∧ Own w' w.heap.size v' 2 (l.map pC) ∧ Below w.heap.size w w' := by
  obtain ⟨a, cap, rfl, h2, h3, h4, h5⟩ := hl
  simp only [List.length_map] at h2 ⊢
  unfold maxLen at h3
  have H5 := Lib.hid h5; clear h5
  obtain ⟨i0, hi, hz0, hz1, hz2⟩ := info_parts Try.info_Piece
  have his : (Try.prog.info? 118).map (·.size) = some 2 := by rw [hi]; simp [hz1]
  have HI := Lib.hid hi; clear hi
  go_enter Try.func95, Try.ntmps95
  go_wp2_with ((refine wpList_make_full _ rfl _ _ 63 rfl w.heap.size 118 i0 _ 2 Try.underlying63 HI.out hz0 hz1 .i64 .i64 _ _ l.length (by rfl) (by rfl) (by rfl) (by rfl) (by rw [hz2]; omega) (by unfold maxLen; omega) (Nat.le_refl _) ?_); intro w1 hown hgrow)
  have hF : Fill w1 w.heap.size l.length 2 (l.map pC) 0 := Fill.start hown
  have hB : Below w.heap.size w w1 := (Below.refl _ _).grown hgrow (Nat.le_refl _) (fun k h => by simp at h)
  have hsz : w.heap.size < w1.heap.size := by
    rcases hown.2 with ⟨h, _⟩ | ⟨g, cap, cur, h, _, hh, _⟩
    · simp at h
    · simp at h; obtain ⟨rfl, rfl⟩ := h; exact (Array.getElem?_eq_some_iff.1 hh).1
  clear hown hgrow
  go_loopw [4] (fun i wr => ∃ k : Nat, k ≤ l.length ∧ i = .int .i64 k ∧ Below w.heap.size w wr ∧ w.heap.size < wr.heap.size ∧ Hid (Fill wr w.heap.size l.length 2 (l.map pC) k)) (fun i _ => l.length - (intOf i).toNat)
  case atStart => exact ⟨0, Nat.zero_le _, rfl, hB, hsz, hF⟩
  case round =>
    clear hF hB hsz
    obtain ⟨k, hk, rfl, hB, hsz, hF⟩ := hrel
    by_cases hlt : k < l.length
    · obtain ⟨x, hx⟩ : ∃ x, l[k]? = some x := ⟨_, List.getElem?_eq_getElem hlt⟩
      obtain ⟨b, off, rfl, hbw, hr⟩ := H5.out k (pC x) (by simp [hx])
      have hr := Below.rangeAt hB hbw hr
      have hrow : (l.map pC)[k]? = some (pC x) := by simp [hx]
      have HX := Lib.hid hrow; clear hx hrow
      obtain ⟨x_off, x_text⟩ := x
      have c0 := hr 0 _ rfl
      have c1 := hr 1 _ rfl
      simp only [Nat.add_zero] at c0
      clear hr
      have hk0 : (0 : Int) ≤ (k : Int) := Int.natCast_nonneg _
      have hk1 : (k : Int) < (l.length : Int) := by omega
      go_wp2_with (go_at_call 105; with_reducible refine (toPiece_c _ _ _).mono ?_; rintro e w2 ⟨rfl, hb2⟩; have hF2 := Lib.hid (hF.out.below hb2 hsz); obtain ⟨⟨o0, ho0⟩, ff0⟩ := Fill.old hF2.out hlt 0 (by omega); obtain ⟨⟨o1, ho1⟩, ff1⟩ := Fill.old hF2.out hlt 1 (by omega); simp only [Nat.add_zero] at ho0 ff0)
      have hst := hF2.out.step (pceRows_len l) HX.out (by simp)
      have hB2 : Below w.heap.size w (w2.setCells w.heap.size (k * 2) (pC ⟨x_off, x_text⟩)) := Below.setCells (Nat.le_refl _) _ _ (hB.trans (hb2.mono (by omega)))
      have hs2 : w.heap.size < (w2.setCells w.heap.size (k * 2) (pC ⟨x_off, x_text⟩)).heap.size := by rw [cZ]; have := hb2.size; omega
      have HS := Lib.hid hst; clear hst
      go_wp2
      go_roundw
      case rel => exact ⟨k + 1, by omega, by go_num, hB2, hs2, HS.out⟩
      case measure => simp [intOf]; omega
    · obtain rfl : k = l.length := by omega
      go_wp2
      refine bodyPost_ret (by simp [results, Try.results95]) rfl ⟨_, rfl, hF.out.own (by simp) (Nat.le_refl _) hsz (by unfold maxLen; omega), hB⟩
set_option maxHeartbeats 1000000 in
theorem eqPieceS_c (v u : Value) (l : List Pce) (w : World) (hl : Sl w v 2 (l.map pC)) (hu : Sl w u 2 (l.map pC)) : Calls Try.prog 97 #[v, u] w fun e w' => e = .returned (.bool true) ∧ Below w.heap.size w w' := by
  obtain ⟨a, cap, rfl, h2, h3, h4, h5⟩ := hl
  obtain ⟨a', cap', rfl, h2', h3', h4', h5'⟩ := hu
  simp only [List.length_map] at h2 h2' ⊢
  unfold maxLen at h3 h3'
  have H5 := Lib.hid h5; clear h5
  have H5' := Lib.hid h5'; clear h5'
  go_enter Try.func97, Try.ntmps97
  go_wp2
  go_loopw [5] (fun i wr => ∃ k : Nat, k ≤ l.length ∧ i = .int .i64 k ∧ Below w.heap.size w wr) (fun i _ => l.length - (intOf i).toNat)
  case atStart => exact ⟨0, Nat.zero_le _, rfl, Below.refl _ _⟩
  case round =>
    obtain ⟨k, hk, rfl, hB⟩ := hrel
    by_cases hlt : k < l.length
    · obtain ⟨x, hx⟩ : ∃ x, l[k]? = some x := ⟨_, List.getElem?_eq_getElem hlt⟩
      obtain ⟨b, off, rfl, hbw, hr⟩ := H5.out k (pC x) (by simp [hx])
      obtain ⟨b', off', rfl, hbw', hr'⟩ := H5'.out k (pC x) (by simp [hx])
      have hr := Below.rangeAt hB hbw hr
      have hr' := Below.rangeAt hB hbw' hr'
      have hbz : b < wr.heap.size := by have := hB.size; omega
      have hbz' : b' < wr.heap.size := by have := hB.size; omega
      clear hx
      have hk0 : (0 : Int) ≤ (k : Int) := Int.natCast_nonneg _
      have hk1 : (k : Int) < (l.length : Int) := by omega
      have hBs := hB.size
      obtain ⟨x_off, x_text⟩ := x
      have c0 := hr 0 _ rfl
      have c1 := hr 1 _ rfl
      have d0 := hr' 0 _ rfl
      have d1 := hr' 1 _ rfl
      simp only [Nat.add_zero] at c0 d0
      clear hr hr'
      go_wp2
      go_region_held3 (fun w' => w'.cell? ⟨b, off + k * 2, none⟩ = some (.int .i64 x_off) ∧ w'.cell? ⟨b, off + k * 2 + 1, none⟩ = some (.string x_text) ∧ w'.cell? ⟨b', off' + k * 2, none⟩ = some (.int .i64 x_off) ∧ w'.cell? ⟨b', off' + k * 2 + 1, none⟩ = some (.string x_text))
        (first | exact ⟨(hb2.cell (p := ⟨b, _, none⟩) hbz).trans c0, (hb2.cell (p := ⟨b, _, none⟩) hbz).trans c1, (hb2.cell (p := ⟨b', _, none⟩) hbz').trans d0, (hb2.cell (p := ⟨b', _, none⟩) hbz').trans d1⟩ | go_keep)
        (first | (go_at_call 107; refine (eqPiece_c x_off x_text _).mono ?_; rintro e w2 ⟨rfl, hb2⟩))
      go_wp2
      go_roundw
      case rel => exact ⟨k + 1, by omega, by go_num, by (repeat' (first | (with_reducible exact Below.refl _ _) | (with_reducible refine Below.alloc ?_ ?_ _) | (with_reducible refine ak ?_ ?_ _ _) | (with_reducible refine Below.setCell ?_ ?_ _) | (with_reducible refine Below.drew ?_) | (with_reducible refine aF ?_ _) | (with_reducible assumption) | (with_reducible refine bZ ?_ (by assumption) ?_) | (simp only [World.size_alloc, World.size_setCell, World.size_drew, World.heap_drewN, a9]; done) | (simp only [World.size_alloc, World.size_setCell, World.size_drew, World.heap_drewN, a9]; omega) | omega))⟩
      case measure => simp [intOf]; omega
    · obtain rfl : k = l.length := by omega
      go_wp2
      refine bodyPost_ret (v := .bool true) (by simp [results, Try.results97]) rfl ⟨rfl, hB⟩
end
/- Contracts (C1). -/
section
open Go.RowKit
attribute [local go_sem] dt dr du dv cz cr cq cv cu co cy cn ct cm bA cw cx a9 cell?_grow frozen?_grow aH bO bg
attribute [local go_sem] aN aW bh bf bt aO aX ba bc bv bN cM ai am aM aL
attribute [local go_sem ↓] pload_implConn pstore_implConn pload_lawsConn pstore_lawsConn pload_implReceiver pstore_implReceiver pload_lawsReceiver pstore_lawsReceiver pload_implTable pstore_implTable pload_lawsTable pstore_lawsTable
attribute [local go_sem] Value.oneCell' load_implConn store_implConn load_lawsConn store_lawsConn load_implReceiver store_implReceiver load_lawsReceiver store_lawsReceiver load_implTable store_implTable load_lawsTable store_lawsTable
set_option linter.unusedVariables false
set_option linter.unusedSimpArgs false
theorem szPiece_c (x_off : Int) (x_text : ByteArray) (left : Int) (w : World) (h0 : 0 ≤ left) (h1 : left ≤ 1048576) (hm : x_text.size ≤ maxLen) : Calls Try.prog 104 #[.agg #[.int .i64 x_off, .string x_text], .int .i64 left] w fun e w' => e = .returned (.int .i64 (if left < x_text.size then -1 else left - x_text.size)) ∧ Below w.heap.size w w' := by
  unfold maxLen at hm
  by_cases h : left < x_text.size
  all_goals
    go_enter Try.func104, Try.ntmps104
    go_wp2
    refine bodyPost_ret (v := .int .i64 (if left < x_text.size then -1 else left - x_text.size)) (by first | (simp [results, Try.results104, *]; done) | (simp [results, Try.results104, *]; omega)) rfl ⟨by first | rfl | (split <;> first | rfl | (exfalso; omega)), ?_⟩
    (repeat' (first | (with_reducible exact Below.refl _ _) | (with_reducible refine Below.alloc ?_ ?_ _) | (with_reducible refine ak ?_ ?_ _ _) | (with_reducible refine Below.setCell ?_ ?_ _) | (with_reducible refine Below.drew ?_) | (with_reducible refine aF ?_ _) | (with_reducible assumption) | (with_reducible refine bZ ?_ (by assumption) ?_) | (simp only [World.size_alloc, World.size_setCell, World.size_drew, World.heap_drewN, a9]; done) | (simp only [World.size_alloc, World.size_setCell, World.size_drew, World.heap_drewN, a9]; omega) | omega))
theorem szSender_c (x_una : Int) (x_data : ByteArray) (x_sent : Int) (x_fin : Bool) (x_finSent : Bool) (x_done : Bool) (left : Int) (w : World) (h0 : 0 ≤ left) (h1 : left ≤ 1048576) (hm : x_data.size ≤ maxLen) : Calls Try.prog 60 #[.agg #[.int .i64 x_una, .string x_data, .int .i64 x_sent, .bool x_fin, .bool x_finSent, .bool x_done], .int .i64 left] w fun e w' => e = .returned (.int .i64 (if left < x_data.size then -1 else left - x_data.size)) ∧ Below w.heap.size w w' := by
  unfold maxLen at hm
  by_cases h : left < x_data.size
  all_goals
    go_enter Try.func60, Try.ntmps60
    go_wp2
    refine bodyPost_ret (v := .int .i64 (if left < x_data.size then -1 else left - x_data.size)) (by first | (simp [results, Try.results60, *]; done) | (simp [results, Try.results60, *]; omega)) rfl ⟨by first | rfl | (split <;> first | rfl | (exfalso; omega)), ?_⟩
    (repeat' (first | (with_reducible exact Below.refl _ _) | (with_reducible refine Below.alloc ?_ ?_ _) | (with_reducible refine ak ?_ ?_ _ _) | (with_reducible refine Below.setCell ?_ ?_ _) | (with_reducible refine Below.drew ?_) | (with_reducible refine aF ?_ _) | (with_reducible assumption) | (with_reducible refine bZ ?_ (by assumption) ?_) | (simp only [World.size_alloc, World.size_setCell, World.size_drew, World.heap_drewN, a9]; done) | (simp only [World.size_alloc, World.size_setCell, World.size_drew, World.heap_drewN, a9]; omega) | omega))
def PcFit (left r : Int) (l : List Pce) : Prop := r = -1 ∨ (0 ≤ r ∧ r ≤ left ∧ l.length ≤ left ∧ ∀ p ∈ l, p.text.size ≤ left)
theorem szPieceS_c (v : Value) (l : List Pce) (left : Int) (w : World) (hl : Sl w v 2 (l.map pC)) (hm : ∀ p ∈ l, p.text.size ≤ maxLen) (h0 : 0 ≤ left) (h1 : left ≤ 1048576) : Calls Try.prog 93 #[v, .int .i64 left] w fun e w' => ∃ r : Int, e = .returned (.int .i64 r) ∧ PcFit left r l ∧ Below w.heap.size w w' := by
  obtain ⟨a, cap, rfl, h2, h3, h4, h5⟩ := hl
  simp only [List.length_map] at h2 ⊢
  unfold maxLen at h3
  have H5 := Lib.hid h5; clear h5
  have HM := Lib.hid hm; clear hm
  by_cases h : left < l.length
  · go_enter Try.func93, Try.ntmps93
    go_wp2
    refine bodyPost_ret (v := .int .i64 (-1)) (by simp [results, Try.results93]) rfl ⟨_, rfl, .inl rfl, ?_⟩
    (repeat' (first | (with_reducible exact Below.refl _ _) | (with_reducible refine Below.alloc ?_ ?_ _) | (with_reducible refine ak ?_ ?_ _ _) | (with_reducible refine Below.setCell ?_ ?_ _) | (with_reducible refine Below.drew ?_) | (with_reducible refine aF ?_ _) | (with_reducible assumption) | (with_reducible refine bZ ?_ (by assumption) ?_) | (simp only [World.size_alloc, World.size_setCell, World.size_drew, World.heap_drewN, a9]; done) | (simp only [World.size_alloc, World.size_setCell, World.size_drew, World.heap_drewN, a9]; omega) | omega))
  · have hn : (l.length : Int) ≤ left := by omega
    have hl0 : (0 : Int) ≤ left - l.length := by omega
    go_enter Try.func93, Try.ntmps93
    go_wp2
    go_loopw [1, 5] (fun c i wr => ∃ (k : Nat) (r : Int), k ≤ l.length ∧ i = .int .i64 k ∧ c = .int .i64 r ∧ 0 ≤ r ∧ r ≤ left ∧ Hid (∀ (j : Nat) (p : Pce), j < k → l[j]? = some p → p.text.size ≤ left) ∧ Below w.heap.size w wr) (fun _ i _ => l.length - (intOf i).toNat)
    case atStart => exact ⟨0, left - l.length, Nat.zero_le _, rfl, rfl, by omega, by omega, fun j p hj => by omega, Below.refl _ _⟩
    case round =>
      obtain ⟨k, r, hk, rfl, rfl, hr0, hr1, hno, hB⟩ := hrel
      by_cases hlt : k < l.length
      · obtain ⟨x, hx⟩ : ∃ x, l[k]? = some x := ⟨_, List.getElem?_eq_getElem hlt⟩
        obtain ⟨b, off, rfl, hbw, hr⟩ := H5.out k (pC x) (by simp [hx])
        have hr := Below.rangeAt hB hbw hr
        have hxm : x.text.size ≤ maxLen := HM.out x (List.mem_of_getElem? hx)
        have HX := Lib.hid hx; clear hx
        obtain ⟨x_off, x_text⟩ := x
        have c0 := hr 0 _ rfl
        have c1 := hr 1 _ rfl
        simp only [Nat.add_zero] at c0
        clear hr
        have hk0 : (0 : Int) ≤ (k : Int) := Int.natCast_nonneg _
        have hk1 : (k : Int) < (l.length : Int) := by omega
        have hBs := hB.size
        by_cases hq : r < x_text.size
        · go_wp2_with (go_at_call 104; with_reducible refine (szPiece_c _ _ _ _ hr0 (by omega) hxm).mono ?_; rintro e w2 ⟨rfl, hb2⟩; rw [if_pos hq])
          refine bodyPost_ret (v := .int .i64 (-1)) (by simp [results, Try.results93]) rfl ⟨_, rfl, .inl rfl, bZ hB hb2 hBs⟩
        · have hr2 : (0 : Int) ≤ r - x_text.size := by omega
          go_wp2_with (go_at_call 104; with_reducible refine (szPiece_c _ _ _ _ hr0 (by omega) hxm).mono ?_; rintro e w2 ⟨rfl, hb2⟩; rw [if_neg (by omega)])
          go_roundw
          case rel => exact ⟨k + 1, r - x_text.size, by omega, by go_num, rfl, hr2, by omega, fun j p hj hp => by
            rcases Nat.lt_succ_iff_lt_or_eq.1 hj with h | rfl
            · exact hno j p h hp
            · have := HX.out.symm.trans hp; simp only [Option.some.injEq] at this; subst this; simp only; omega, bZ hB hb2 hBs⟩
          case measure => simp [intOf]; omega
      · go_wp2
        refine bodyPost_ret (v := .int .i64 r) (by simp [results, Try.results93]) rfl ⟨_, rfl, .inr ⟨hr0, hr1, hn, fun p hp => by
          obtain ⟨j, hj, rfl⟩ := List.mem_iff_getElem.1 hp
          exact hno j _ (by omega) (List.getElem?_eq_getElem hj)⟩, hB⟩
theorem szReceiver_c (x_next : Int) (x_data : ByteArray) (x_held : List Pce) (x_held_v : Value) (x_fin : Int) (x_done : Bool) (left : Int) (w : World) (hl : Sl w x_held_v 2 (x_held.map pC)) (hm : ∀ p ∈ x_held, p.text.size ≤ maxLen) (h0 : 0 ≤ left) (h1 : left ≤ 1048576) (hd : x_data.size ≤ maxLen) : Calls Try.prog 61 #[.agg #[.int .i64 x_next, .string x_data, x_held_v, .int .i64 x_fin, .bool x_done], .int .i64 left] w fun e w' => ∃ r : Int, e = .returned (.int .i64 r) ∧ (r = -1 ∨ (0 ≤ r ∧ r ≤ left ∧ x_data.size ≤ left ∧ PcFit left r x_held)) ∧ Below w.heap.size w w' := by
  unfold maxLen at hd
  have HL := Lib.hid hl; have HM := Lib.hid hm; clear hl hm
  by_cases h : left < x_data.size
  · go_enter Try.func61, Try.ntmps61
    go_wp2
    refine bodyPost_ret (v := .int .i64 (-1)) (by simp [results, Try.results61]) rfl ⟨_, rfl, .inl rfl, ?_⟩
    (repeat' (first | (with_reducible exact Below.refl _ _) | (with_reducible refine Below.alloc ?_ ?_ _) | (with_reducible refine ak ?_ ?_ _ _) | (with_reducible refine Below.setCell ?_ ?_ _) | (with_reducible refine Below.drew ?_) | (with_reducible refine aF ?_ _) | (with_reducible assumption) | (with_reducible refine bZ ?_ (by assumption) ?_) | (simp only [World.size_alloc, World.size_setCell, World.size_drew, World.heap_drewN, a9]; done) | (simp only [World.size_alloc, World.size_setCell, World.size_drew, World.heap_drewN, a9]; omega) | omega))
  · have hl0 : (0 : Int) ≤ left - x_data.size := by omega
    go_enter Try.func61, Try.ntmps61
    go_wp2_with fail
    refine (szPieceS_c _ x_held _ _ (HL.out.kept (B := w.heap.size) (by (repeat' (first | (with_reducible exact Below.refl _ _) | (with_reducible refine Below.alloc ?_ ?_ _) | (with_reducible refine ak ?_ ?_ _ _) | (with_reducible refine Below.setCell ?_ ?_ _) | (with_reducible refine Below.drew ?_) | (with_reducible refine aF ?_ _) | (with_reducible assumption) | (with_reducible refine bZ ?_ (by assumption) ?_) | (simp only [World.size_alloc, World.size_setCell, World.size_drew, World.heap_drewN, a9]; done) | (simp only [World.size_alloc, World.size_setCell, World.size_drew, World.heap_drewN, a9]; omega) | omega))) (Nat.le_refl _)) HM.out hl0 (by omega)).mono ?_
    rintro e w1 ⟨r, rfl, hr, hb1⟩
    obtain ⟨d1, os1, rfl⟩ := aC hb1; clear hb1
    rcases hr with rfl | ⟨hr0, hr1, hr2, hr3⟩
    · go_wp2
      refine bodyPost_ret (v := .int .i64 (-1)) (by simp [results, Try.results61]) rfl ⟨_, rfl, .inl rfl, ?_⟩
      (repeat' (first | (with_reducible exact Below.refl _ _) | (with_reducible refine Below.alloc ?_ ?_ _) | (with_reducible refine ak ?_ ?_ _ _) | (with_reducible refine Below.setCell ?_ ?_ _) | (with_reducible refine Below.drew ?_) | (with_reducible refine aF ?_ _) | (with_reducible assumption) | (with_reducible refine bZ ?_ (by assumption) ?_) | (simp only [World.size_alloc, World.size_setCell, World.size_drew, World.heap_drewN, a9]; done) | (simp only [World.size_alloc, World.size_setCell, World.size_drew, World.heap_drewN, a9]; omega) | omega))
    · have HR := Lib.hid hr3; clear hr3
      go_wp2
      refine bodyPost_ret (v := .int .i64 r) (by simp [results, Try.results61]) rfl ⟨_, rfl, .inr ⟨hr0, by omega, by omega, .inr ⟨hr0, by omega, by omega, fun p hp => by have := HR.out p hp; omega⟩⟩, ?_⟩
      (repeat' (first | (with_reducible exact Below.refl _ _) | (with_reducible refine Below.alloc ?_ ?_ _) | (with_reducible refine ak ?_ ?_ _ _) | (with_reducible refine Below.setCell ?_ ?_ _) | (with_reducible refine Below.drew ?_) | (with_reducible refine aF ?_ _) | (with_reducible assumption) | (with_reducible refine bZ ?_ (by assumption) ?_) | (simp only [World.size_alloc, World.size_setCell, World.size_drew, World.heap_drewN, a9]; done) | (simp only [World.size_alloc, World.size_setCell, World.size_drew, World.heap_drewN, a9]; omega) | omega))
def ConFit (n : Int) (c : Con) : Prop := c.s.data.size ≤ n ∧ c.r.data.size ≤ n ∧ c.r.held.length ≤ n ∧ ∀ p ∈ c.r.held, p.text.size ≤ n
theorem szConn_c (x_t_ip : Int) (x_t_port : Int) (x_t_my : Int) (x_state : Int) (x_s_una : Int) (x_s_data : ByteArray) (x_s_sent : Int) (x_s_fin : Bool) (x_s_finSent : Bool) (x_s_done : Bool) (x_r_next : Int) (x_r_data : ByteArray) (x_r_held : List Pce) (x_r_held_v : Value) (x_r_fin : Int) (x_r_done : Bool) (x_window : Int) (x_most : Int) (x_o_mss : Int) (x_o_scale : Int) (x_o_sack : Bool) (x_o_stamp : Bool) (x_o_val : Int) (x_o_echo : Int) (x_timer : Int) (x_tries : Int) (left : Int) (w : World) (hl : Sl w x_r_held_v 2 (x_r_held.map pC)) (hm : ∀ p ∈ x_r_held, p.text.size ≤ maxLen) (h0 : 0 ≤ left) (h1 : left ≤ 1048576) (hd : x_r_data.size ≤ maxLen) (hsd : x_s_data.size ≤ maxLen) : Calls Try.prog 26 #[.agg #[.int .i64 x_t_ip, .int .i64 x_t_port, .int .i64 x_t_my, .int .i64 x_state, .int .i64 x_s_una, .string x_s_data, .int .i64 x_s_sent, .bool x_s_fin, .bool x_s_finSent, .bool x_s_done, .int .i64 x_r_next, .string x_r_data, x_r_held_v, .int .i64 x_r_fin, .bool x_r_done, .int .i64 x_window, .int .i64 x_most, .int .i64 x_o_mss, .int .i64 x_o_scale, .bool x_o_sack, .bool x_o_stamp, .int .i64 x_o_val, .int .i64 x_o_echo, .int .i64 x_timer, .int .i64 x_tries], .int .i64 left] w fun e w' => ∃ r : Int, e = .returned (.int .i64 r) ∧ (r = -1 ∨ (0 ≤ r ∧ r ≤ left ∧ ConFit left ⟨⟨x_t_ip, x_t_port, x_t_my⟩, x_state, ⟨x_s_una, x_s_data, x_s_sent, x_s_fin, x_s_finSent, x_s_done⟩, ⟨x_r_next, x_r_data, x_r_held, x_r_fin, x_r_done⟩, x_window, x_most, ⟨x_o_mss, x_o_scale, x_o_sack, x_o_stamp, x_o_val, x_o_echo⟩, x_timer, x_tries⟩)) ∧ Below w.heap.size w w' := by
  have HL := Lib.hid hl; have HM := Lib.hid hm; clear hl hm
  by_cases h : left < x_s_data.size
  · go_enter Try.func26, Try.ntmps26
    go_wp2_with (go_at_call 60; with_reducible refine (szSender_c _ _ _ _ _ _ _ _ h0 h1 hsd).mono ?_; rintro e w1 ⟨rfl, hb1⟩; obtain ⟨d1, os1, rfl⟩ := aC hb1; clear hb1; rw [if_pos h])
    refine bodyPost_ret (v := .int .i64 (-1)) (by simp [results, Try.results26]) rfl ⟨_, rfl, .inl rfl, ?_⟩
    (repeat' (first | (with_reducible exact Below.refl _ _) | (with_reducible refine Below.alloc ?_ ?_ _) | (with_reducible refine ak ?_ ?_ _ _) | (with_reducible refine Below.setCell ?_ ?_ _) | (with_reducible refine Below.drew ?_) | (with_reducible refine aF ?_ _) | (with_reducible assumption) | (with_reducible refine bZ ?_ (by assumption) ?_) | (simp only [World.size_alloc, World.size_setCell, World.size_drew, World.heap_drewN, a9]; done) | (simp only [World.size_alloc, World.size_setCell, World.size_drew, World.heap_drewN, a9]; omega) | omega))
  · have hl0 : (0 : Int) ≤ left - x_s_data.size := by omega
    go_enter Try.func26, Try.ntmps26
    go_wp2_with fail
    refine (szSender_c _ _ _ _ _ _ _ _ h0 h1 hsd).mono ?_
    rintro e w1 ⟨rfl, hb1⟩; obtain ⟨d1, os1, rfl⟩ := aC hb1; clear hb1
    rw [if_neg (by omega)]
    go_wp2_with fail
    refine (szReceiver_c _ _ x_r_held _ _ _ _ _ (HL.out.kept (B := w.heap.size) (by (repeat' (first | (with_reducible exact Below.refl _ _) | (with_reducible refine Below.alloc ?_ ?_ _) | (with_reducible refine ak ?_ ?_ _ _) | (with_reducible refine Below.setCell ?_ ?_ _) | (with_reducible refine Below.drew ?_) | (with_reducible refine aF ?_ _) | (with_reducible assumption) | (with_reducible refine bZ ?_ (by assumption) ?_) | (simp only [World.size_alloc, World.size_setCell, World.size_drew, World.heap_drewN, a9]; done) | (simp only [World.size_alloc, World.size_setCell, World.size_drew, World.heap_drewN, a9]; omega) | omega))) (Nat.le_refl _)) HM.out hl0 (by omega) hd).mono ?_
    rintro e w2 ⟨r, rfl, hr, hb2⟩
    obtain ⟨d2, os2, rfl⟩ := aC hb2; clear hb2
    rcases hr with rfl | ⟨hr0, hr1, hr2, hr3⟩
    · go_wp2
      refine bodyPost_ret (v := .int .i64 (-1)) (by simp [results, Try.results26]) rfl ⟨_, rfl, .inl rfl, ?_⟩
      (repeat' (first | (with_reducible exact Below.refl _ _) | (with_reducible refine Below.alloc ?_ ?_ _) | (with_reducible refine ak ?_ ?_ _ _) | (with_reducible refine Below.setCell ?_ ?_ _) | (with_reducible refine Below.drew ?_) | (with_reducible refine aF ?_ _) | (with_reducible assumption) | (with_reducible refine bZ ?_ (by assumption) ?_) | (simp only [World.size_alloc, World.size_setCell, World.size_drew, World.heap_drewN, a9]; done) | (simp only [World.size_alloc, World.size_setCell, World.size_drew, World.heap_drewN, a9]; omega) | omega))
    · have HR := Lib.hid hr3; clear hr3
      go_wp2
      refine bodyPost_ret (v := .int .i64 r) (by simp [results, Try.results26]) rfl ⟨_, rfl, .inr ⟨hr0, by omega, ?_⟩, ?_⟩
      · rcases HR.out with h | ⟨_, _, h2, h3⟩
        · omega
        · exact ⟨by simp only; omega, by simp only; omega, by simp only; omega, fun p hp => by have := h3 p hp; omega⟩
      · (repeat' (first | (with_reducible exact Below.refl _ _) | (with_reducible refine Below.alloc ?_ ?_ _) | (with_reducible refine ak ?_ ?_ _ _) | (with_reducible refine Below.setCell ?_ ?_ _) | (with_reducible refine Below.drew ?_) | (with_reducible refine aF ?_ _) | (with_reducible assumption) | (with_reducible refine bZ ?_ (by assumption) ?_) | (simp only [World.size_alloc, World.size_setCell, World.size_drew, World.heap_drewN, a9]; done) | (simp only [World.size_alloc, World.size_setCell, World.size_drew, World.heap_drewN, a9]; omega) | omega))
set_option maxHeartbeats 1000000 in
theorem toReceiver_c (x_next : Int) (x_data : ByteArray) (x_held : List Pce) (x_held_v : Value) (x_fin : Int) (x_done : Bool) (w : World) (hl : Sl w x_held_v 2 (x_held.map pC)) (hn : x_held.length ≤ 1048576) : Calls Try.prog 64 #[.agg #[.int .i64 x_next, .string x_data, x_held_v, .int .i64 x_fin, .bool x_done]] w fun e w' => ∃ v' : Value, e = .returned (.agg #[.int .i64 x_next, .string x_data, v', .int .i64 x_fin, .bool x_done]) ∧ Own w' w.heap.size v' 2 (x_held.map pC) ∧ Below w.heap.size w w' := by
  have HL := Lib.hid hl; clear hl
  go_enter Try.func64, Try.ntmps64
  go_wp2_with fail
  refine (toPieceS_c _ x_held _ (HL.out.kept (B := w.heap.size) (by (repeat' (first | (with_reducible exact Below.refl _ _) | (with_reducible refine Below.alloc ?_ ?_ _) | (with_reducible refine ak ?_ ?_ _ _) | (with_reducible refine Below.setCell ?_ ?_ _) | (with_reducible refine Below.drew ?_) | (with_reducible refine aF ?_ _) | (with_reducible assumption) | (with_reducible refine bZ ?_ (by assumption) ?_) | (simp only [World.size_alloc, World.size_setCell, World.size_drew, World.heap_drewN, a9]; done) | (simp only [World.size_alloc, World.size_setCell, World.size_drew, World.heap_drewN, a9]; omega) | omega))) (Nat.le_refl _)) hn).mono ?_
  rintro e w1 ⟨v1, rfl, hO1, hb1⟩
  obtain ⟨a1, cap1, rfl⟩ := hO1.form
  obtain ⟨d1, os1, rfl⟩ := aC hb1; clear hb1
  go_wp2
  refine bodyPost_ret (v := .agg #[.int .i64 x_next, .string x_data, .slice a1 _ cap1, .int .i64 x_fin, .bool x_done]) (by simp [results, Try.results64, go_sem, *]) rfl ⟨_, rfl, (hO1.mid (by (repeat' (first | (with_reducible exact Mid.refl _ _ _) | (with_reducible refine Mid.swap ?_) | (with_reducible refine Mid.grow ?_ ?_ _ _) | (with_reducible refine Mid.alloc ?_ ?_ _) | (with_reducible refine Mid.setCell ?_ ?_ _) | (with_reducible refine Mid.drew ?_) | (with_reducible refine Mid.drewN ?_ _) | (with_reducible refine Mid.below ?_ (by assumption) ?_) | (simp only [World.size_alloc, World.size_setCell, World.size_drew, World.heap_drewN, a9]; done) | (simp only [World.size_alloc, World.size_setCell, World.size_drew, World.heap_drewN, a9]; omega) | omega)))).lower (by simp only [World.size_alloc, World.size_setCell, World.size_drew, World.heap_drewN, a9]; omega), ?_⟩
  (repeat' (first | (with_reducible exact Below.refl _ _) | (with_reducible refine Below.alloc ?_ ?_ _) | (with_reducible refine ak ?_ ?_ _ _) | (with_reducible refine Below.setCell ?_ ?_ _) | (with_reducible refine Below.drew ?_) | (with_reducible refine aF ?_ _) | (with_reducible assumption) | (with_reducible refine bZ ?_ (by assumption) ?_) | (simp only [World.size_alloc, World.size_setCell, World.size_drew, World.heap_drewN, a9]; done) | (simp only [World.size_alloc, World.size_setCell, World.size_drew, World.heap_drewN, a9]; omega) | omega))
set_option maxHeartbeats 4000000 in
theorem toConn_c (x_t_ip : Int) (x_t_port : Int) (x_t_my : Int) (x_state : Int) (x_s_una : Int) (x_s_data : ByteArray) (x_s_sent : Int) (x_s_fin : Bool) (x_s_finSent : Bool) (x_s_done : Bool) (x_r_next : Int) (x_r_data : ByteArray) (x_r_held : List Pce) (x_r_held_v : Value) (x_r_fin : Int) (x_r_done : Bool) (x_window : Int) (x_most : Int) (x_o_mss : Int) (x_o_scale : Int) (x_o_sack : Bool) (x_o_stamp : Bool) (x_o_val : Int) (x_o_echo : Int) (x_timer : Int) (x_tries : Int) (w : World) (hl : Sl w x_r_held_v 2 (x_r_held.map pC)) (hn : x_r_held.length ≤ 1048576) : Calls Try.prog 28 #[.agg #[.int .i64 x_t_ip, .int .i64 x_t_port, .int .i64 x_t_my, .int .i64 x_state, .int .i64 x_s_una, .string x_s_data, .int .i64 x_s_sent, .bool x_s_fin, .bool x_s_finSent, .bool x_s_done, .int .i64 x_r_next, .string x_r_data, x_r_held_v, .int .i64 x_r_fin, .bool x_r_done, .int .i64 x_window, .int .i64 x_most, .int .i64 x_o_mss, .int .i64 x_o_scale, .bool x_o_sack, .bool x_o_stamp, .int .i64 x_o_val, .int .i64 x_o_echo, .int .i64 x_timer, .int .i64 x_tries]] w fun e w' => ∃ v' : Value, e = .returned (.agg #[.int .i64 x_t_ip, .int .i64 x_t_port, .int .i64 x_t_my, .int .i64 x_state, .int .i64 x_s_una, .string x_s_data, .int .i64 x_s_sent, .bool x_s_fin, .bool x_s_finSent, .bool x_s_done, .int .i64 x_r_next, .string x_r_data, v', .int .i64 x_r_fin, .bool x_r_done, .int .i64 x_window, .int .i64 x_most, .int .i64 x_o_mss, .int .i64 x_o_scale, .bool x_o_sack, .bool x_o_stamp, .int .i64 x_o_val, .int .i64 x_o_echo, .int .i64 x_timer, .int .i64 x_tries]) ∧ Own w' w.heap.size v' 2 (x_r_held.map pC) ∧ Below w.heap.size w w' := by
  have HL := Lib.hid hl; clear hl
  go_enter Try.func28, Try.ntmps28
  go_wp2_with fail
  refine (toTuple_c _ _ _ _).mono ?_
  rintro e w1 ⟨rfl, hb1⟩; obtain ⟨d1, os1, rfl⟩ := aC hb1; clear hb1
  go_wp2_with fail
  refine (toSender_c _ _ _ _ _ _ _).mono ?_
  rintro e w2 ⟨rfl, hb2⟩; obtain ⟨d2, os2, rfl⟩ := aC hb2; clear hb2
  go_wp2_with fail
  refine (toReceiver_c _ _ x_r_held _ _ _ _ (HL.out.kept (B := w.heap.size) (by (repeat' (first | (with_reducible exact Below.refl _ _) | (with_reducible refine Below.alloc ?_ ?_ _) | (with_reducible refine ak ?_ ?_ _ _) | (with_reducible refine Below.setCell ?_ ?_ _) | (with_reducible refine Below.drew ?_) | (with_reducible refine aF ?_ _) | (with_reducible assumption) | (with_reducible refine bZ ?_ (by assumption) ?_) | (simp only [World.size_alloc, World.size_setCell, World.size_drew, World.heap_drewN, a9]; done) | (simp only [World.size_alloc, World.size_setCell, World.size_drew, World.heap_drewN, a9]; omega) | omega))) (Nat.le_refl _)) hn).mono ?_
  rintro e w3 ⟨v3, rfl, hO3, hb3⟩
  obtain ⟨a3, cap3, rfl⟩ := hO3.form
  obtain ⟨d3, os3, rfl⟩ := aC hb3; clear hb3
  go_wp2_with fail
  refine (toOptions_c _ _ _ _ _ _ _).mono ?_
  rintro e w4 ⟨rfl, hb4⟩; obtain ⟨d4, os4, rfl⟩ := aC hb4; clear hb4
  go_wp2
  refine bodyPost_ret (v := .agg #[.int .i64 x_t_ip, .int .i64 x_t_port, .int .i64 x_t_my, .int .i64 x_state, .int .i64 x_s_una, .string x_s_data, .int .i64 x_s_sent, .bool x_s_fin, .bool x_s_finSent, .bool x_s_done, .int .i64 x_r_next, .string x_r_data, .slice a3 _ cap3, .int .i64 x_r_fin, .bool x_r_done, .int .i64 x_window, .int .i64 x_most, .int .i64 x_o_mss, .int .i64 x_o_scale, .bool x_o_sack, .bool x_o_stamp, .int .i64 x_o_val, .int .i64 x_o_echo, .int .i64 x_timer, .int .i64 x_tries]) ((res_implConn Try.results28 _ _ _ rfl (by simp [go_sem])).trans (by simp [go_sem])) rfl ⟨_, rfl, (hO3.mid (by (repeat' (first | (with_reducible exact Mid.refl _ _ _) | (with_reducible refine Mid.swap ?_) | (with_reducible refine Mid.grow ?_ ?_ _ _) | (with_reducible refine Mid.alloc ?_ ?_ _) | (with_reducible refine Mid.setCell ?_ ?_ _) | (with_reducible refine Mid.drew ?_) | (with_reducible refine Mid.drewN ?_ _) | (with_reducible refine Mid.below ?_ (by assumption) ?_) | (simp only [World.size_alloc, World.size_setCell, World.size_drew, World.heap_drewN, a9]; done) | (simp only [World.size_alloc, World.size_setCell, World.size_drew, World.heap_drewN, a9]; omega) | omega)))).lower (by simp only [World.size_alloc, World.size_setCell, World.size_drew, World.heap_drewN, a9]; omega), ?_⟩
  (repeat' (first | (with_reducible exact Below.refl _ _) | (with_reducible refine Below.alloc ?_ ?_ _) | (with_reducible refine ak ?_ ?_ _ _) | (with_reducible refine Below.setCell ?_ ?_ _) | (with_reducible refine Below.drew ?_) | (with_reducible refine aF ?_ _) | (with_reducible assumption) | (with_reducible refine bZ ?_ (by assumption) ?_) | (simp only [World.size_alloc, World.size_setCell, World.size_drew, World.heap_drewN, a9]; done) | (simp only [World.size_alloc, World.size_setCell, World.size_drew, World.heap_drewN, a9]; omega) | omega))
theorem eqReceiver_c (x_next : Int) (x_data : ByteArray) (x_held : List Pce) (x_held_v : Value) (x_fin : Int) (x_done : Bool) (u : Value) (w : World) (hl : Sl w x_held_v 2 (x_held.map pC)) (hu : Sl w u 2 (x_held.map pC)) : Calls Try.prog 68 #[.agg #[.int .i64 x_next, .string x_data, x_held_v, .int .i64 x_fin, .bool x_done], .agg #[.int .i64 x_next, .string x_data, u, .int .i64 x_fin, .bool x_done]] w fun e w' => e = .returned (.bool true) ∧ Below w.heap.size w w' := by
  have HL := Lib.hid hl; have HU := Lib.hid hu; clear hl hu
  go_enter Try.func68, Try.ntmps68
  go_wp2_with fail
  refine (eqPieceS_c _ _ x_held _ (HL.out.kept (B := w.heap.size) (by (repeat' (first | (with_reducible exact Below.refl _ _) | (with_reducible refine Below.alloc ?_ ?_ _) | (with_reducible refine ak ?_ ?_ _ _) | (with_reducible refine Below.setCell ?_ ?_ _) | (with_reducible refine Below.drew ?_) | (with_reducible refine aF ?_ _) | (with_reducible assumption) | (with_reducible refine bZ ?_ (by assumption) ?_) | (simp only [World.size_alloc, World.size_setCell, World.size_drew, World.heap_drewN, a9]; done) | (simp only [World.size_alloc, World.size_setCell, World.size_drew, World.heap_drewN, a9]; omega) | omega))) (Nat.le_refl _)) (HU.out.kept (B := w.heap.size) (by (repeat' (first | (with_reducible exact Below.refl _ _) | (with_reducible refine Below.alloc ?_ ?_ _) | (with_reducible refine ak ?_ ?_ _ _) | (with_reducible refine Below.setCell ?_ ?_ _) | (with_reducible refine Below.drew ?_) | (with_reducible refine aF ?_ _) | (with_reducible assumption) | (with_reducible refine bZ ?_ (by assumption) ?_) | (simp only [World.size_alloc, World.size_setCell, World.size_drew, World.heap_drewN, a9]; done) | (simp only [World.size_alloc, World.size_setCell, World.size_drew, World.heap_drewN, a9]; omega) | omega))) (Nat.le_refl _))).mono ?_
  rintro e w1 ⟨rfl, hb1⟩; obtain ⟨d1, os1, rfl⟩ := aC hb1; clear hb1
  go_wp2
  refine bodyPost_ret (v := .bool true) (by simp [results, Try.results68]) rfl ⟨rfl, ?_⟩
  (repeat' (first | (with_reducible exact Below.refl _ _) | (with_reducible refine Below.alloc ?_ ?_ _) | (with_reducible refine ak ?_ ?_ _ _) | (with_reducible refine Below.setCell ?_ ?_ _) | (with_reducible refine Below.drew ?_) | (with_reducible refine aF ?_ _) | (with_reducible assumption) | (with_reducible refine bZ ?_ (by assumption) ?_) | (simp only [World.size_alloc, World.size_setCell, World.size_drew, World.heap_drewN, a9]; done) | (simp only [World.size_alloc, World.size_setCell, World.size_drew, World.heap_drewN, a9]; omega) | omega))
set_option maxHeartbeats 2000000 in
theorem eqConn_c (x_t_ip : Int) (x_t_port : Int) (x_t_my : Int) (x_state : Int) (x_s_una : Int) (x_s_data : ByteArray) (x_s_sent : Int) (x_s_fin : Bool) (x_s_finSent : Bool) (x_s_done : Bool) (x_r_next : Int) (x_r_data : ByteArray) (x_r_held : List Pce) (x_r_held_v : Value) (x_r_fin : Int) (x_r_done : Bool) (x_window : Int) (x_most : Int) (x_o_mss : Int) (x_o_scale : Int) (x_o_sack : Bool) (x_o_stamp : Bool) (x_o_val : Int) (x_o_echo : Int) (x_timer : Int) (x_tries : Int) (u : Value) (w : World) (hl : Sl w x_r_held_v 2 (x_r_held.map pC)) (hu : Sl w u 2 (x_r_held.map pC)) : Calls Try.prog 30 #[.agg #[.int .i64 x_t_ip, .int .i64 x_t_port, .int .i64 x_t_my, .int .i64 x_state, .int .i64 x_s_una, .string x_s_data, .int .i64 x_s_sent, .bool x_s_fin, .bool x_s_finSent, .bool x_s_done, .int .i64 x_r_next, .string x_r_data, x_r_held_v, .int .i64 x_r_fin, .bool x_r_done, .int .i64 x_window, .int .i64 x_most, .int .i64 x_o_mss, .int .i64 x_o_scale, .bool x_o_sack, .bool x_o_stamp, .int .i64 x_o_val, .int .i64 x_o_echo, .int .i64 x_timer, .int .i64 x_tries], .agg #[.int .i64 x_t_ip, .int .i64 x_t_port, .int .i64 x_t_my, .int .i64 x_state, .int .i64 x_s_una, .string x_s_data, .int .i64 x_s_sent, .bool x_s_fin, .bool x_s_finSent, .bool x_s_done, .int .i64 x_r_next, .string x_r_data, u, .int .i64 x_r_fin, .bool x_r_done, .int .i64 x_window, .int .i64 x_most, .int .i64 x_o_mss, .int .i64 x_o_scale, .bool x_o_sack, .bool x_o_stamp, .int .i64 x_o_val, .int .i64 x_o_echo, .int .i64 x_timer, .int .i64 x_tries]] w fun e w' => e = .returned (.bool true) ∧ Below w.heap.size w w' := by
  have HL := Lib.hid hl; have HU := Lib.hid hu; clear hl hu
  go_enter Try.func30, Try.ntmps30
  go_wp2_with (first | (go_at_call 23; with_reducible refine (eqTuple_c _ _ _ _).mono ?_; rintro e w1 ⟨rfl, hb1⟩; obtain ⟨d1, os1, rfl⟩ := aC hb1; clear hb1) | (go_at_call 67; with_reducible refine (eqSender_c _ _ _ _ _ _ _).mono ?_; rintro e w2 ⟨rfl, hb2⟩; obtain ⟨d2, os2, rfl⟩ := aC hb2; clear hb2) | (go_at_call 69; with_reducible refine (eqOptions_c _ _ _ _ _ _ _).mono ?_; rintro e w4 ⟨rfl, hb4⟩; obtain ⟨d4, os4, rfl⟩ := aC hb4; clear hb4) | (go_at_call 68; refine (eqReceiver_c _ _ x_r_held _ _ _ _ _ (HL.out.kept (B := w.heap.size) (by (repeat' (first | (with_reducible exact Below.refl _ _) | (with_reducible refine Below.alloc ?_ ?_ _) | (with_reducible refine ak ?_ ?_ _ _) | (with_reducible refine Below.setCell ?_ ?_ _) | (with_reducible refine Below.drew ?_) | (with_reducible refine aF ?_ _) | (with_reducible assumption) | (with_reducible refine bZ ?_ (by assumption) ?_) | (simp only [World.size_alloc, World.size_setCell, World.size_drew, World.heap_drewN, a9]; done) | (simp only [World.size_alloc, World.size_setCell, World.size_drew, World.heap_drewN, a9]; omega) | omega))) (Nat.le_refl _)) (HU.out.kept (B := w.heap.size) (by (repeat' (first | (with_reducible exact Below.refl _ _) | (with_reducible refine Below.alloc ?_ ?_ _) | (with_reducible refine ak ?_ ?_ _ _) | (with_reducible refine Below.setCell ?_ ?_ _) | (with_reducible refine Below.drew ?_) | (with_reducible refine aF ?_ _) | (with_reducible assumption) | (with_reducible refine bZ ?_ (by assumption) ?_) | (simp only [World.size_alloc, World.size_setCell, World.size_drew, World.heap_drewN, a9]; done) | (simp only [World.size_alloc, World.size_setCell, World.size_drew, World.heap_drewN, a9]; omega) | omega))) (Nat.le_refl _))).mono ?_; rintro e w3 ⟨rfl, hb3⟩; obtain ⟨d3, os3, rfl⟩ := aC hb3; clear hb3))
  refine bodyPost_ret (v := .bool true) (by simp [results, Try.results30]) rfl ⟨rfl, ?_⟩
  (repeat' (first | (with_reducible exact Below.refl _ _) | (with_reducible refine Below.alloc ?_ ?_ _) | (with_reducible refine ak ?_ ?_ _ _) | (with_reducible refine Below.setCell ?_ ?_ _) | (with_reducible refine Below.drew ?_) | (with_reducible refine aF ?_ _) | (with_reducible assumption) | (with_reducible refine bZ ?_ (by assumption) ?_) | (simp only [World.size_alloc, World.size_setCell, World.size_drew, World.heap_drewN, a9]; done) | (simp only [World.size_alloc, World.size_setCell, World.size_drew, World.heap_drewN, a9]; omega) | omega))
end
/- The machine: connections in rows, each with a slice of its own. -/
section
open Go.RowKit
set_option linter.unusedVariables false
set_option linter.unusedSimpArgs false
def a7 (x : CV) : List Value := aQ x.1 x.2
def ap (cs : List CV) : Fact where
  own := false
  p := fun w => ∀ x ∈ cs, Sl w x.2 2 (x.1.r.held.map pC)
  blk := fun b => ∃ x ∈ cs, (au x.2 2 (x.1.r.held.map pC)).blk b
  lt := fun w b h ⟨x, hx, hb⟩ => (au x.2 2 (x.1.r.held.map pC)).lt w b (h x hx) hb
  keep := fun w w' h hs hb x hx => (au x.2 2 (x.1.r.held.map pC)).keep w w' (h x hx) hs fun b hbx => hb b ⟨x, hx, hbx⟩
def aU (g T : Nat) (cs : List Value) : Fact where
  own := false
  p := fun w => w.heap[g]? = some (.cells cs.toArray T (0, 0))
  blk := fun b => b = g
  lt := fun w b h hb => by subst hb; exact (Array.getElem?_eq_some_iff.1 h).1
  keep := fun w w' h hs hb => (hb g rfl).trans h
theorem sl_block {w : World} {A : Option Addr} {n cap K j : Nat} {rs : List (List Value)} {row : List Value} (h : Sl w (.slice A n cap) K rs) (hrow : rs[j]? = some row) : ∃ b off, A = some ⟨b, off, none⟩ := by
  obtain ⟨a, cp, h1, -, -, -, h5⟩ := h
  obtain ⟨b, off, h6, -⟩ := h5 j row hrow
  simp only [Value.slice.injEq] at h1
  exact ⟨b, off, h1.1.trans h6⟩
theorem cB {w : World} {x : CV} (h : Sl w x.2 2 (x.1.r.held.map pC)) : ∃ c a cp, x = (c, .slice a c.r.held.length cp) := by
  obtain ⟨c, v⟩ := x
  obtain ⟨a, cp, hv⟩ := h.form
  exact ⟨c, a, cp, by simp only at hv; rw [hv, List.length_map]⟩
section
variable {P : Program} {n : Nat} {w0 : World} {QX : Exit → St → Prop} {st st' : St} {ops : Array Oper} {l : List Oper}
theorem xl_callC (k : Nat) (ks : List Nat) (st' : St) (f : FuncId) (args : List Value) (d : Option Nat) {α : Type} {F : α → Value} {G : α → List Fact} {o : Oper}
    (h : bS P n ops l k ks st = some st') (ho : l[k]? = some o) (hc : xcalleeC ops st' o = some (f, args, d)) (hd : bu n d = true) (hf : fnOk P f = true)
    (hk : XC P w0 st'.facts f args F G)
    (hn : ∀ y, XL P n w0 ops QX (l.drop (k + 1)) ⟨br st'.tmps d (.v (F y)), st'.boxes, st'.rows, G y ++ st'.facts⟩) : XL P n w0 ops QX l st :=
  fun ρ σ a w hr => bj h hr (fun ρ' σ' a' w' hr' => by
    have hdrop : l.drop k = o :: l.drop (k + 1) := by
      obtain ⟨hlt, rfl⟩ := List.getElem?_eq_some_iff.1 ho
      exact List.drop_eq_getElem_cons hlt
    rw [hdrop]
    obtain ⟨h1, h2, h3⟩ := xcalleeC_sound (P := P) hr'.1 hc hf w'
    simp only [wpList]
    rw [h1, if_pos rfl]
    left
    rw [Oper.wp, h3, Oper.upon_enter]
    refine (hk w' hr'.2.below.size (fun g hg => (hr'.2.fact g hg).1)).mono fun e w'' ⟨y, he, hg, hap, hb⟩ => ?_
    subst he
    have hH := (hr'.2.step hb).addAll (G y) (fun g hgm => ⟨(hg g hgm).1, fun i hi hblk => by have := (hg g hgm).2 _ hblk; have := hr'.2.boxLt hi; omega, fun f hf b hgb hfb => by have := (hg g hgm).2 _ hgb; have := f.lt _ b (hr'.2.fact f hf).1 hfb; omega⟩) hap
    have hA := hr'.1.put (d := o.dst) (x := .v (F y)) (by rw [h2]; exact bz hd) trivial
    rw [h2] at hA
    simp only [bK] at hA
    have hA' : XAct n ⟨br st'.tmps d (.v (F y)), st'.boxes, st'.rows, G y ++ st'.facts⟩ ρ' σ' (a'.put d (F y)) := ⟨hA.size, hA.defers, hA.tmps⟩
    simpa only [h2] using hn y ρ' σ' _ w'' ⟨hA', hH⟩)
variable {fuel : Nat} {listed : Array Bool} {B : List Box} {R : List (List Value)} {ρ : Nat → Nat} {σ : Nat → Nat × Nat}
theorem ldK_run {st : St} {a : Act} {w : World} {o : Oper} {t : TypeId} {x : Operand} {g T off : Nat} {cs : List Value} {v : Value} (hr : XRep n w0 st ρ σ a w) (ho : o.op = .load t x) (hx : cl st.tmps x = some (.v (.pointer (some ⟨g, off, none⟩)))) (hf : aU g T cs ∈ st.facts) (hv : loadC P t cs off = some v) :
    (execOp a.eval o).run P w = .ok (.value v) w := ld_range hr.1 ho hx (cellF_range (B := 0) ⟨Nat.zero_le _, (hr.2.fact _ hf).1⟩) hv
end
end
/- The machine: memory of the call's own, one slice a connection, kept together. -/
section
open Go.RowKit
set_option linter.unusedVariables false
set_option linter.unusedSimpArgs false
def ApR (f g : Fact) : Prop := (f.own = true → ∀ b, f.blk b → ¬ g.blk b) ∧ (g.own = true → ∀ b, g.blk b → ¬ f.blk b)
theorem apart_iff {fs : List Fact} : Apart fs ↔ fs.Pairwise ApR := by
  rw [List.pairwise_iff_getElem]
  constructor
  · intro h i j hi hj hij
    have e1 := List.getElem?_eq_getElem hi
    have e2 := List.getElem?_eq_getElem hj
    exact ⟨fun ho b => h i j _ _ e1 e2 (by omega) ho b, fun ho b => h j i _ _ e2 e1 (by omega) ho b⟩
  · intro h i j f g hi hj hij ho b hb
    obtain ⟨h1, rfl⟩ := List.getElem?_eq_some_iff.1 hi
    obtain ⟨h2, rfl⟩ := List.getElem?_eq_some_iff.1 hj
    rcases Nat.lt_or_gt_of_ne hij with hlt | hlt
    · exact (h i j h1 h2 hlt).1 ho b hb
    · exact (h j i h2 h1 hlt).2 ho b hb
theorem Apart.sublist {fs gs : List Fact} (h : Apart fs) (hs : gs.Sublist fs) : Apart gs := apart_iff.2 ((apart_iff.1 h).sublist hs)
theorem ApR.symm {f g : Fact} (h : ApR f g) : ApR g f := ⟨h.2, h.1⟩
theorem Apart.mid {p s : List Fact} {f : Fact} (h : Apart (p ++ s)) (hf : ∀ g ∈ p ++ s, ApR f g) : Apart (p ++ f :: s) := by
  rw [apart_iff] at h ⊢
  rw [List.pairwise_append] at h ⊢
  obtain ⟨h1, h2, h3⟩ := h
  refine ⟨h1, List.pairwise_cons.2 ⟨fun g hg => hf g (List.mem_append_right _ hg), h2⟩, fun a ha b hb => ?_⟩
  rcases List.mem_cons.1 hb with rfl | hb
  · exact (hf a (List.mem_append_left _ ha)).symm
  · exact h3 a ha b hb
section
variable {w0 : World} {b : List Box} {r : List (List Value)} {ρ : Nat → Nat} {σ : Nat → Nat × Nat} {w : World} {hs : List Fact}
theorem XHeap.weak {f f' : Fact} (h : XHeap w0 b r (f :: hs) ρ σ w) (ho : f.own = true) (hp : f.p w → f'.p w) (hb : ∀ q, f'.blk q → f.blk q) : XHeap w0 b r (f' :: hs) ρ σ w := by
  obtain ⟨h1, h2⟩ := h.fact f (List.mem_cons_self ..)
  refine ⟨h.below, h.box, h.inj, h.row, fun g hg => ?_, (Apart.back (gs := [f]) h.apart).cons fun g hg q hq hgq => ?_⟩
  · rcases List.mem_cons.1 hg with rfl | hg
    · exact ⟨hp h1, fun i hi hq => h2 i hi (hb _ hq)⟩
    · exact h.fact g (List.mem_cons_of_mem _ hg)
  · obtain ⟨j, hj⟩ := List.getElem?_of_mem hg
    exact h.apart 0 (j + 1) f g rfl hj (by omega) ho q (hb q hq) hgq
theorem all_take {p s : List Fact} {f : Fact} (ho : f.own = true) (h : XHeap w0 b r (ac (p ++ f :: s) :: hs) ρ σ w) : XHeap w0 b r (f :: ac (p ++ s) :: hs) ρ σ w := by
  obtain ⟨⟨h1, h2⟩, h3⟩ := h.fact (ac (p ++ f :: s)) (List.mem_cons_self ..)
  have hsub : (p ++ s).Sublist (p ++ f :: s) := List.Sublist.append (List.Sublist.refl p) (List.sublist_cons_self f s)
  have hm : ∀ g ∈ p ++ s, g ∈ p ++ f :: s := fun g hg => hsub.subset hg
  have hff : f ∈ p ++ f :: s := by simp
  have hpw := apart_iff.1 h2
  have hfR : ∀ g ∈ p ++ s, ApR f g := fun g hg => by
    rw [List.pairwise_append, List.pairwise_cons] at hpw
    rcases List.mem_append.1 hg with hg | hg
    · exact (hpw.2.2 g hg f (by simp)).symm
    · exact hpw.2.1.1 g hg
  have htail := Apart.back (gs := [ac (p ++ f :: s)]) h.apart
  have hd : ∀ g ∈ hs, ∀ q, (∃ k ∈ p ++ f :: s, k.blk q) → ¬ g.blk q := fun g hg q hq hgq => by
    obtain ⟨j, hj⟩ := List.getElem?_of_mem hg
    exact h.apart 0 (j + 1) _ g rfl hj (by omega) rfl q hq hgq
  refine ⟨h.below, h.box, h.inj, h.row, fun g hg => ?_, (htail.cons (f := ac (p ++ s)) fun g hg q hq => hd g hg q (let ⟨k, hk, hkq⟩ := hq; ⟨k, hm k hk, hkq⟩)).cons fun g hg q hq hgq => ?_⟩
  · rcases List.mem_cons.1 hg with rfl | hg
    · exact ⟨h1 _ hff, fun i hi hq => h3 i hi ⟨_, hff, hq⟩⟩
    rcases List.mem_cons.1 hg with rfl | hg
    · exact ⟨⟨fun k hk => h1 k (hm k hk), h2.sublist hsub⟩, fun i hi hq => let ⟨k, hk, hkq⟩ := hq; h3 i hi ⟨k, hm k hk, hkq⟩⟩
    · exact h.fact g (List.mem_cons_of_mem _ hg)
  · rcases List.mem_cons.1 hg with rfl | hg
    · obtain ⟨k, hk, hkq⟩ := hgq
      exact (hfR k hk).1 ho q hq hkq
    · exact hd g hg q ⟨f, hff, hq⟩ hgq
theorem all_put {p s : List Fact} {f : Fact} (ho : f.own = true) (h : XHeap w0 b r (f :: ac (p ++ s) :: hs) ρ σ w) : XHeap w0 b r (ac (p ++ f :: s) :: hs) ρ σ w := by
  obtain ⟨h1, h2⟩ := h.fact f (List.mem_cons_self ..)
  obtain ⟨⟨h3, h4⟩, h5⟩ := h.fact (ac (p ++ s)) (by simp)
  have hmem : ∀ g ∈ p ++ f :: s, g = f ∨ g ∈ p ++ s := fun g hg => by
    simp only [List.mem_append, List.mem_cons] at hg ⊢
    rcases hg with hg | rfl | hg
    · exact .inr (.inl hg)
    · exact .inl rfl
    · exact .inr (.inr hg)
  refine ⟨h.below, h.box, h.inj, h.row, fun g hg => ?_, (Apart.back (gs := [f, ac (p ++ s)]) h.apart).cons fun g hg q hq hgq => ?_⟩
  · rcases List.mem_cons.1 hg with rfl | hg
    · refine ⟨⟨fun k hk => ?_, h4.mid fun g hg => ⟨fun _ q hq hgq => ?_, fun _ q hgq hq => ?_⟩⟩, fun i hi hq => ?_⟩
      · rcases hmem k hk with rfl | hk
        · exact h1
        · exact h3 k hk
      · exact h.apart 0 1 f _ rfl rfl (by omega) ho q hq ⟨g, hg, hgq⟩
      · exact h.apart 1 0 _ f rfl rfl (by omega) rfl q ⟨g, hg, hgq⟩ hq
      · obtain ⟨k, hk, hkq⟩ := hq
        rcases hmem k hk with rfl | hk
        · exact h2 i hi hkq
        · exact h5 i hi ⟨k, hk, hkq⟩
    · exact h.fact g (by simp [hg])
  · obtain ⟨j, hj⟩ := List.getElem?_of_mem hg
    obtain ⟨k, hk, hkq⟩ := hq
    rcases hmem k hk with rfl | hk
    · exact h.apart 0 (j + 2) _ g rfl hj (by omega) ho q hkq hgq
    · exact h.apart 1 (j + 2) _ g rfl hj (by omega) rfl q ⟨k, hk, hkq⟩ hgq
end
def hlF (B : Nat) (x : CV) : Fact := aw B x.2 2 (x.1.r.held.map pC)
def ay (B : Nat) (cs : List CV) : Fact := ac (cs.map (hlF B))
theorem bQ {B : Nat} {cs : List CV} {w : World} (h : (ay B cs).p w) : ∀ x ∈ cs, Sl w x.2 2 (x.1.r.held.map pC) := fun x hx => Own.sl (h.1 (hlF B x) (List.mem_map_of_mem hx))
theorem hownF_lo {B : Nat} {cs : List CV} {w : World} (h : (ay B cs).p w) {q : Nat} (hq : (ay B cs).blk q) : B ≤ q := by
  obtain ⟨g, hg, hq⟩ := hq
  have := h.1 g hg
  obtain ⟨x, hx, rfl⟩ := List.mem_map.1 hg
  exact ownF_lo this hq
theorem hownF_nil (w : World) (B : Nat) : (ay B []).p w := ⟨fun g hg => by simp at hg, Apart.nil⟩
theorem hownF_nob {B q : Nat} : ¬ (ay B []).blk q := fun ⟨g, hg, _⟩ => by simp at hg
section
variable {w0 : World} {b : List Box} {r : List (List Value)} {ρ : Nat → Nat} {σ : Nat → Nat × Nat} {w : World} {hs : List Fact} {B : Nat}
theorem hown_take {cs : List CV} {i : Nat} {x : CV} (hx : cs[i]? = some x) (h : XHeap w0 b r (ay B cs :: hs) ρ σ w) : XHeap w0 b r (hlF B x :: ay B (cs.take i ++ cs.drop (i + 1)) :: hs) ρ σ w := by
  obtain ⟨hlt, rfl⟩ := List.getElem?_eq_some_iff.1 hx
  have e : cs.map (hlF B) = (cs.take i).map (hlF B) ++ hlF B cs[i] :: (cs.drop (i + 1)).map (hlF B) := by
    conv => lhs; rw [← List.take_append_drop i cs, List.drop_eq_getElem_cons hlt]
    rw [List.map_append, List.map_cons]
  unfold ay at h ⊢
  rw [e] at h
  rw [List.map_append]
  exact all_take rfl h
theorem hown_put {cs : List CV} {i : Nat} {x : CV} (hi : i < cs.length) (h : XHeap w0 b r (hlF B x :: ay B (cs.take i ++ cs.drop (i + 1)) :: hs) ρ σ w) : XHeap w0 b r (ay B (cs.set i x) :: hs) ρ σ w := by
  unfold ay at h ⊢
  rw [List.map_append] at h
  have := all_put rfl h
  rw [List.set_eq_take_append_cons_drop, if_pos hi, List.map_append, List.map_cons]
  exact this
theorem hown_snoc {cs : List CV} {x : CV} (h : XHeap w0 b r (hlF B x :: ay B cs :: hs) ρ σ w) : XHeap w0 b r (ay B (cs ++ [x]) :: hs) ρ σ w := by
  unfold ay at h ⊢
  have : XHeap w0 b r (hlF B x :: ac (cs.map (hlF B) ++ []) :: hs) ρ σ w := by rw [List.append_nil]; exact h
  have := all_put rfl this
  rw [List.map_append]; exact this
theorem hown_set {cs : List CV} {i : Nat} {x : CV} (hi : i < cs.length) (h : XHeap w0 b r (hlF B x :: ay B cs :: hs) ρ σ w) : XHeap w0 b r (ay B (cs.set i x) :: hs) ρ σ w := by
  refine hown_put hi ?_
  have hsub : (cs.take i ++ cs.drop (i + 1)).Sublist cs := by
    conv => rhs; rw [← List.take_append_drop i cs, List.drop_eq_getElem_cons hi]
    exact List.Sublist.append (List.Sublist.refl _) (List.sublist_cons_self _ _)
  obtain ⟨⟨h1, h2⟩, h3⟩ := h.fact (ay B cs) (by simp)
  obtain ⟨h4, h5⟩ := h.fact (hlF B x) (by simp)
  have hm := hsub.map (hlF B)
  have hblk : ∀ q, (ay B (cs.take i ++ cs.drop (i + 1))).blk q → (ay B cs).blk q := fun q ⟨g, hg, hq⟩ => ⟨g, hm.subset hg, hq⟩
  refine ⟨h.below, h.box, h.inj, h.row, fun g hg => ?_, ((Apart.back (gs := [hlF B x, ay B cs]) h.apart).cons fun g hg q hq hgq => ?_).cons fun g hg q hq hgq => ?_⟩
  · rcases List.mem_cons.1 hg with rfl | hg
    · exact ⟨h4, h5⟩
    rcases List.mem_cons.1 hg with rfl | hg
    · exact ⟨⟨fun g hg => h1 g (hm.subset hg), h2.sublist hm⟩, fun j hj hq => h3 j hj (hblk _ hq)⟩
    · exact h.fact g (by simp [hg])
  · obtain ⟨j, hj⟩ := List.getElem?_of_mem hg
    exact h.apart 1 (j + 2) _ g rfl hj (by omega) rfl q (hblk q hq) hgq
  · rcases List.mem_cons.1 hg with rfl | hg
    · exact h.apart 0 1 _ _ rfl rfl (by omega) rfl q hq (hblk q hgq)
    · obtain ⟨j, hj⟩ := List.getElem?_of_mem hg
      exact h.apart 0 (j + 2) _ g rfl hj (by omega) rfl q hq hgq
theorem hown_sub {cs cs' : List CV} (hs' : cs'.Sublist cs) (h : XHeap w0 b r (ay B cs :: hs) ρ σ w) : XHeap w0 b r (ay B cs' :: hs) ρ σ w :=
  h.weak rfl (fun ⟨h1, h2⟩ => ⟨fun g hg => h1 g ((hs'.map (hlF B)).subset hg), h2.sublist (hs'.map (hlF B))⟩) fun q ⟨g, hg, hq⟩ => ⟨g, (hs'.map (hlF B)).subset hg, hq⟩
end
theorem bI {t : List (Nat × AV)} {b : List Box} {r : List (List Value)} {fs fs' : List Fact} (h : ∀ w0 ρ σ w, XHeap w0 b r fs ρ σ w → XHeap w0 b r fs' ρ σ w) : Wk ⟨t, b, r, fs⟩ ⟨t, b, r, fs'⟩ :=
  fun n w0 ρ σ a w hr => ⟨⟨hr.1.size, hr.1.defers, hr.1.tmps⟩, h w0 ρ σ w hr.2⟩
theorem hownF_rep (w : World) (B n : Nat) {c : Con} (hc : c.r.held = [] := by rfl) : (ay B (List.replicate n (c, Value.slice none 0 0))).p w := by
  have hz : ∀ g ∈ (List.replicate n ((c, Value.slice none 0 0) : CV)).map (hlF B), g = hlF B (c, Value.slice none 0 0) := fun g hg => by
    obtain ⟨x, hx, rfl⟩ := List.mem_map.1 hg
    rw [(List.mem_replicate.1 hx).2]
  refine ⟨fun g hg => ?_, fun i j f g hi hj hij ho b hb => ?_⟩
  · rw [hz g hg]; exact .inl ⟨by show c.r.held.map pC = []; rw [hc]; rfl, none, rfl⟩
  · rw [hz f (List.mem_of_getElem? hi)] at hb
    exact (hb.1 (by show c.r.held.map pC = []; rw [hc]; rfl)).elim
theorem hownF_repb {B n q : Nat} {c : Con} (hc : c.r.held = [] := by rfl) : ¬ (ay B (List.replicate n (c, Value.slice none 0 0))).blk q := fun ⟨g, hg, hq⟩ => by
  obtain ⟨x, hx, rfl⟩ := List.mem_map.1 hg
  rw [(List.mem_replicate.1 hx).2] at hq
  exact (hq.1 (by show c.r.held.map pC = []; rw [hc]; rfl)).elim
theorem dk {B B' : Nat} {cs : List CV} {q : Nat} (h : (ay B cs).blk q) : (ay B' cs).blk q := by
  obtain ⟨g, hg, hq⟩ := h
  obtain ⟨x, hx, rfl⟩ := List.mem_map.1 hg
  exact ⟨hlF B' x, List.mem_map_of_mem hx, hq⟩
theorem hownF_lower {B B0 : Nat} {cs : List CV} {w : World} (h : (ay B0 cs).p w) (hB : B ≤ B0) : (ay B cs).p w := by
  refine ⟨fun g hg => ?_, ?_⟩
  · obtain ⟨x, hx, rfl⟩ := List.mem_map.1 hg
    exact ownF_ownF (h.1 (hlF B0 x) (List.mem_map_of_mem hx)) hB
  · have h2 := h.2
    rw [apart_iff] at h2 ⊢
    rw [List.pairwise_map] at h2 ⊢
    exact h2
theorem pH {B B0 : Nat} {cs : List CV} {w' : World} (h : (ay B0 cs).p w') (hB : B ≤ B0) : (ay B cs).p w' ∧ ∀ b, (ay B cs).blk b → B0 ≤ b := ⟨hownF_lower h hB, fun b hb => hownF_lo h (dk hb)⟩
theorem xo3 {w w' : World} {α : Type} {F : α → Value} {G : α → List Fact} (y : α) {v : Value} {f g h : Fact} (hv : v = F y) (hG : G y = [f, g, h]) (p : f.p w' ∧ ∀ b, f.blk b → w.heap.size ≤ b) (q : g.p w' ∧ ∀ b, g.blk b → w.heap.size ≤ b) (s : h.p w' ∧ ∀ b, h.blk b → w.heap.size ≤ b) (ha : Apart [f, g, h]) (hb : Below w.heap.size w w') : XRs w w' (.returned v) F G :=
  ⟨y, by rw [hv], fun k hk => by
    rw [hG] at hk
    simp only [List.mem_cons, List.not_mem_nil, or_false] at hk
    rcases hk with rfl | rfl | rfl
    · exact p
    · exact q
    · exact s, by rw [hG]; exact ha, hb⟩
theorem Apart.sub3 {fs : List Fact} (h : Apart fs) (m : List Nat) {f g k f' g' k' : Fact} (hp : pickF fs m = some [f, g, k]) (hm : nodupB m = true) (o1 : f.own = true) (o2 : g.own = true) (o3 : k.own = true) (h1 : ∀ b, f'.blk b → f.blk b) (h2 : ∀ b, g'.blk b → g.blk b) (h3 : ∀ b, k'.blk b → k.blk b) : Apart [f', g', k'] := by
  have h0 := apart_iff.1 (h.pickN m hm hp)
  simp only [List.pairwise_cons, List.mem_cons, List.not_mem_nil, or_false, forall_eq_or_imp, forall_eq] at h0
  obtain ⟨⟨a1, a2⟩, a3, -⟩ := h0
  have sub : ∀ {x y x' y' : Fact}, x.own = true → y.own = true → ApR x y → (∀ b, x'.blk b → x.blk b) → (∀ b, y'.blk b → y.blk b) → ApR x' y' := fun ox oy hr hx hy =>
    ⟨fun _ b hb hb' => hr.1 ox b (hx b hb) (hy b hb'), fun _ b hb hb' => hr.2 oy b (hy b hb) (hx b hb')⟩
  rw [apart_iff]
  refine List.pairwise_cons.2 ⟨fun z hz => ?_, List.pairwise_cons.2 ⟨fun z hz => ?_, List.pairwise_singleton _ _⟩⟩
  · simp only [List.mem_cons, List.not_mem_nil, or_false] at hz
    rcases hz with rfl | rfl
    · exact sub o1 o2 a1 h1 h2
    · exact sub o1 o3 a2 h1 h3
  · obtain rfl : z = k' := by simpa using hz
    exact sub o2 o3 a3 h2 h3
theorem hownF_nilp {w0 : World} : ∀ w : World, w0.heap.size ≤ w.heap.size → (ay w0.heap.size []).p w := fun w _ => hownF_nil w _
end
/- Sizes of tables (the laws' first measure). -/
section
open Go.RowKit
set_option linter.unusedVariables false
def szP (left r : Int) (c : List CV) : Prop := r = -1 ∨ (0 ≤ r ∧ r ≤ left ∧ (c.length : Int) ≤ left ∧ ∀ x ∈ c, ConFit left x.1)
theorem ConFit.mono {n m : Int} {c : Con} (h : ConFit n c) (hm : n ≤ m) : ConFit m c := ⟨by have := h.1; omega, by have := h.2.1; omega, by have := h.2.2.1; omega, fun p hp => by have := h.2.2.2 p hp; omega⟩
theorem ConFit.fit {n : Int} {c : Con} (h : ConFit n c) (hm : n ≤ 1048576) : bp c := ⟨by have := h.1; omega, by have := h.2.1; omega, by have := h.2.2.1; omega, fun p hp => by have := h.2.2.2 p hp; omega⟩
theorem sz_step {c : List CV} {n : Int} {k : Nat} {x : CV} (hx : c[k]? = some x) (h : ConFit n x.1) (hk : ∀ (i : Nat) (x : CV), i < k → c[i]? = some x → ConFit n x.1) : ∀ (i : Nat) (x : CV), i < k + 1 → c[i]? = some x → ConFit n x.1 := fun i y hi hy => by
  rcases Nat.lt_succ_iff_lt_or_eq.1 hi with hi | rfl
  · exact hk i y hi hy
  · rw [hx] at hy; simp only [Option.some.injEq] at hy; subst hy; exact h
theorem sz_all {c : List CV} {n : Int} {k : Nat} (hk : k = c.length) (h : ∀ (i : Nat) (x : CV), i < k → c[i]? = some x → ConFit n x.1) : ∀ x ∈ c, ConFit n x.1 := fun x hx => by
  obtain ⟨i, hi⟩ := List.getElem?_of_mem hx
  exact h i x (by rw [hk]; exact (List.getElem?_eq_some_iff.1 hi).1) hi
end
/- Contracts: slices of Tuple in the laws. -/
section
open Go.RowKit
attribute [local go_sem] dt dr du dv cz cr cq cv cu co cy cn ct cm bA cw cx a9 cell?_grow frozen?_grow aH bO bg
attribute [local go_sem] aN aW bh bf bt aO aX ba bc bv bN cM ai am aM aL
set_option linter.unusedVariables false
set_option linter.unusedSimpArgs false
theorem tupRows_len (l : List Tup) : ∀ r ∈ l.map a5, r.length = 3 := fun r h => by obtain ⟨x, -, rfl⟩ := List.mem_map.1 h; rfl
theorem szTupleS_c (v : Value) (l : List Tup) (left : Int) (w : World) (hl : Sl w v 3 (l.map a5)) (h0 : 0 ≤ left) (h1 : left ≤ 1048576) : Calls Try.prog 37 #[v, .int .i64 left] w fun e w' => e = .returned (.int .i64 (if left < l.length then -1 else left - l.length)) ∧ w = w' := by
  obtain ⟨a, cap, rfl, h2, h3, h4, h5⟩ := hl
  simp only [List.length_map] at h2 ⊢
  unfold maxLen at h3
  have H5 := Lib.hid h5; clear h5
  by_cases h : left < l.length
  all_goals
    go_enter Try.func37, Try.ntmps37
    go_wp2
    refine bodyPost_ret (v := .int .i64 (if left < l.length then -1 else left - l.length)) (by first | (simp [results, Try.results37, *]; done) | (simp [results, Try.results37, *]; omega)) rfl ⟨by first | rfl | (split <;> first | rfl | (exfalso; omega)), rfl⟩
theorem Try.info_Tuple : (Try.prog.info? 35).map (fun i => (i.zero, i.size, i.bytes)) = some (some (.agg #[.int .i64 0, .int .i64 0, .int .i64 0]), 3, 24) := by kernel_rfl
set_option maxRecDepth 100000 in
set_option maxHeartbeats 1000000 in
theorem toTupleS_c (v : Value) (l : List Tup) (w : World) (hl : Sl w v 3 (l.map a5)) (hn : l.length ≤ 1048576) : Calls Try.prog 39 #[v] w fun e w' => ∃ v', e = .returned v' ∧ Own w' w.heap.size v' 3 (l.map a5) ∧ Below w.heap.size w w' := by
  obtain ⟨a, cap, rfl, h2, h3, h4, h5⟩ := hl
  simp only [List.length_map] at h2 ⊢
  unfold maxLen at h3
  have H5 := Lib.hid h5; clear h5
  obtain ⟨i0, hi, hz0, hz1, hz2⟩ := info_parts Try.info_Tuple
  have his : (Try.prog.info? 35).map (·.size) = some 3 := by rw [hi]; simp [hz1]
  have HI := Lib.hid hi; clear hi
  go_enter Try.func39, Try.ntmps39
  go_wp2_with ((refine wpList_make_full _ rfl _ _ 31 rfl w.heap.size 35 i0 _ 3 Try.underlying31 HI.out hz0 hz1 .i64 .i64 _ _ l.length (by rfl) (by rfl) (by rfl) (by rfl) (by rw [hz2]; omega) (by unfold maxLen; omega) (Nat.le_refl _) ?_); intro w1 hown hgrow)
  have hF : Fill w1 w.heap.size l.length 3 (l.map a5) 0 := Fill.start hown
  have hB : Below w.heap.size w w1 := (Below.refl _ _).grown hgrow (Nat.le_refl _) (fun k h => by simp at h)
  have hsz : w.heap.size < w1.heap.size := by
    rcases hown.2 with ⟨h, _⟩ | ⟨g, cap, cur, h, _, hh, _⟩
    · simp at h
    · simp at h; obtain ⟨rfl, rfl⟩ := h; exact (Array.getElem?_eq_some_iff.1 hh).1
  clear hown hgrow
  go_loopw [4] (fun i wr => ∃ k : Nat, k ≤ l.length ∧ i = .int .i64 k ∧ Below w.heap.size w wr ∧ w.heap.size < wr.heap.size ∧ Hid (Fill wr w.heap.size l.length 3 (l.map a5) k)) (fun i _ => l.length - (intOf i).toNat)
  case atStart => exact ⟨0, Nat.zero_le _, rfl, hB, hsz, hF⟩
  case round =>
    clear hF hB hsz
    obtain ⟨k, hk, rfl, hB, hsz, hF⟩ := hrel
    by_cases hlt : k < l.length
    · obtain ⟨x, hx⟩ : ∃ x, l[k]? = some x := ⟨_, List.getElem?_eq_getElem hlt⟩
      obtain ⟨b, off, rfl, hbw, hr⟩ := H5.out k (a5 x) (by simp [hx])
      have hr := Below.rangeAt hB hbw hr
      have hrow : (l.map a5)[k]? = some (a5 x) := by simp [hx]
      have HX := Lib.hid hrow; clear hx hrow
      obtain ⟨x_ip, x_port, x_my⟩ := x
      have c0 := hr 0 _ rfl
      have c1 := hr 1 _ rfl
      have c2 := hr 2 _ rfl
      simp only [Nat.add_zero] at c0
      clear hr
      have hk0 : (0 : Int) ≤ (k : Int) := Int.natCast_nonneg _
      have hk1 : (k : Int) < (l.length : Int) := by omega
      go_wp2_with (go_at_call 13; with_reducible refine (toTuple_c _ _ _ _).mono ?_; rintro e w2 ⟨rfl, hb2⟩; have hF2 := Lib.hid (hF.out.below hb2 hsz); obtain ⟨⟨o0, ho0⟩, ff0⟩ := Fill.old hF2.out hlt 0 (by omega); obtain ⟨⟨o1, ho1⟩, ff1⟩ := Fill.old hF2.out hlt 1 (by omega); obtain ⟨⟨o2, ho2⟩, ff2⟩ := Fill.old hF2.out hlt 2 (by omega); simp only [Nat.add_zero] at ho0 ff0)
      have hst := hF2.out.step (tupRows_len l) HX.out (by simp)
      have hB2 : Below w.heap.size w (w2.setCells w.heap.size (k * 3) (a5 ⟨x_ip, x_port, x_my⟩)) := Below.setCells (Nat.le_refl _) _ _ (hB.trans (hb2.mono (by omega)))
      have hs2 : w.heap.size < (w2.setCells w.heap.size (k * 3) (a5 ⟨x_ip, x_port, x_my⟩)).heap.size := by rw [cZ]; have := hb2.size; omega
      have HS := Lib.hid hst; clear hst
      go_wp2
      go_roundw
      case rel => exact ⟨k + 1, by omega, by go_num, hB2, hs2, HS.out⟩
      case measure => simp [intOf]; omega
    · obtain rfl : k = l.length := by omega
      go_wp2
      refine bodyPost_ret (by simp [results, Try.results39]) rfl ⟨_, rfl, hF.out.own (by simp) (Nat.le_refl _) hsz (by unfold maxLen; omega), hB⟩
set_option maxHeartbeats 1000000 in
theorem eqTupleS_c (v u : Value) (l : List Tup) (w : World) (hl : Sl w v 3 (l.map a5)) (hu : Sl w u 3 (l.map a5)) : Calls Try.prog 43 #[v, u] w fun e w' => e = .returned (.bool true) ∧ Below w.heap.size w w' := by
  obtain ⟨a, cap, rfl, h2, h3, h4, h5⟩ := hl
  obtain ⟨a', cap', rfl, h2', h3', h4', h5'⟩ := hu
  simp only [List.length_map] at h2 h2' ⊢
  unfold maxLen at h3 h3'
  have H5 := Lib.hid h5; clear h5
  have H5' := Lib.hid h5'; clear h5'
  go_enter Try.func43, Try.ntmps43
  go_wp2
  go_loopw [5] (fun i wr => ∃ k : Nat, k ≤ l.length ∧ i = .int .i64 k ∧ Below w.heap.size w wr) (fun i _ => l.length - (intOf i).toNat)
  case atStart => exact ⟨0, Nat.zero_le _, rfl, Below.refl _ _⟩
  case round =>
    obtain ⟨k, hk, rfl, hB⟩ := hrel
    by_cases hlt : k < l.length
    · obtain ⟨x, hx⟩ : ∃ x, l[k]? = some x := ⟨_, List.getElem?_eq_getElem hlt⟩
      obtain ⟨b, off, rfl, hbw, hr⟩ := H5.out k (a5 x) (by simp [hx])
      obtain ⟨b', off', rfl, hbw', hr'⟩ := H5'.out k (a5 x) (by simp [hx])
      have hr := Below.rangeAt hB hbw hr
      have hr' := Below.rangeAt hB hbw' hr'
      have hbz : b < wr.heap.size := by have := hB.size; omega
      have hbz' : b' < wr.heap.size := by have := hB.size; omega
      clear hx
      have hk0 : (0 : Int) ≤ (k : Int) := Int.natCast_nonneg _
      have hk1 : (k : Int) < (l.length : Int) := by omega
      have hBs := hB.size
      obtain ⟨x_ip, x_port, x_my⟩ := x
      have c0 := hr 0 _ rfl
      have c1 := hr 1 _ rfl
      have c2 := hr 2 _ rfl
      have d0 := hr' 0 _ rfl
      have d1 := hr' 1 _ rfl
      have d2 := hr' 2 _ rfl
      simp only [Nat.add_zero] at c0 d0
      clear hr hr'
      go_wp2
      go_region_held3 (fun w' => w'.cell? ⟨b, off + k * 3, none⟩ = some (.int .i64 x_ip) ∧ w'.cell? ⟨b, off + k * 3 + 1, none⟩ = some (.int .i64 x_port) ∧ w'.cell? ⟨b, off + k * 3 + 2, none⟩ = some (.int .i64 x_my) ∧ w'.cell? ⟨b', off' + k * 3, none⟩ = some (.int .i64 x_ip) ∧ w'.cell? ⟨b', off' + k * 3 + 1, none⟩ = some (.int .i64 x_port) ∧ w'.cell? ⟨b', off' + k * 3 + 2, none⟩ = some (.int .i64 x_my))
        (first | exact ⟨(hb2.cell (p := ⟨b, _, none⟩) hbz).trans c0, (hb2.cell (p := ⟨b, _, none⟩) hbz).trans c1, (hb2.cell (p := ⟨b, _, none⟩) hbz).trans c2, (hb2.cell (p := ⟨b', _, none⟩) hbz').trans d0, (hb2.cell (p := ⟨b', _, none⟩) hbz').trans d1, (hb2.cell (p := ⟨b', _, none⟩) hbz').trans d2⟩ | go_keep)
        (first | (go_at_call 23; refine (eqTuple_c x_ip x_port x_my _).mono ?_; rintro e w2 ⟨rfl, hb2⟩))
      go_wp2
      go_roundw
      case rel => exact ⟨k + 1, by omega, by go_num, by (repeat' (first | (with_reducible exact Below.refl _ _) | (with_reducible refine Below.alloc ?_ ?_ _) | (with_reducible refine ak ?_ ?_ _ _) | (with_reducible refine Below.setCell ?_ ?_ _) | (with_reducible refine Below.drew ?_) | (with_reducible refine aF ?_ _) | (with_reducible assumption) | (with_reducible refine bZ ?_ (by assumption) ?_) | (simp only [World.size_alloc, World.size_setCell, World.size_drew, World.heap_drewN, a9]; done) | (simp only [World.size_alloc, World.size_setCell, World.size_drew, World.heap_drewN, a9]; omega) | omega))⟩
      case measure => simp [intOf]; omega
    · obtain rfl : k = l.length := by omega
      go_wp2
      refine bodyPost_ret (v := .bool true) (by simp [results, Try.results43]) rfl ⟨rfl, hB⟩
end
/- Plain definitions: ax (no program in sight). -/
section
open Go.RowKit
theorem bstr_one (z : Int) : (d8 [z]).size = 1 := rfl
def bH (k : Int) (out : ByteArray) : ByteArray :=
  if h : 0 < k then bH (k.tdiv 10) (d8 [IntKind.u8.wrap (48 + k.tmod 10)] ++ out) else out
termination_by k.toNat
decreasing_by
  rw [Int.tdiv_eq_ediv_of_nonneg (by omega)]; omega
def a6 (k : Int) : ByteArray := if k ≤ 0 then ⟨#[109, 48]⟩ else ⟨#[109]⟩ ++ bH k ⟨#[]⟩
theorem mark_dec {z : Int} (hz : 0 < z) : (z.tdiv 10).toNat < z.toNat := by rw [Int.tdiv_eq_ediv_of_nonneg (by omega)]; omega
theorem markLoop_step {k z : Int} {o out : ByteArray} (hz : 0 < z) (h : bH k o = bH z out) : bH k o = bH (z.tdiv 10) (d8 [IntKind.u8.wrap (48 + z.tmod 10)] ++ out) := by
  rw [h, bH, dif_pos hz]
theorem markLoop_end {k z : Int} {o out : ByteArray} (hz : ¬ 0 < z) (h : bH k o = bH z out) : bH k o = out := by
  rw [h, bH, dif_neg hz]
theorem mark_room {k z x : Int} {out : ByteArray} (hz : 0 < z) (h : out.size + z.toNat ≤ k.toNat) : (d8 [x] ++ out).size + (z.tdiv 10).toNat ≤ k.toNat := by
  have := mark_dec hz
  rw [ByteArray.size_append, bstr_one]; omega
theorem wrap_tdiv {k z : Int} {out : ByteArray} (hz : 0 < z) (h : out.size + z.toNat ≤ k.toNat) (hk : k ≤ 4611686018427387904) : IntKind.i64.wrap (z.tdiv 10) = z.tdiv 10 := by
  rw [Int.tdiv_eq_ediv_of_nonneg (by omega)]; exact aj (by omega) (by omega)
theorem wrap_tmod {z : Int} (hz : 0 < z) : IntKind.i64.wrap (48 + z.tmod 10) = 48 + z.tmod 10 := by
  rw [Int.tmod_eq_emod_of_nonneg (by omega)]; exact aj (by omega) (by omega)
theorem mark_sz {k z x : Int} {out : ByteArray} (hz : 0 < z) (h : out.size + z.toNat ≤ k.toNat) (hk : k ≤ 4611686018427387904) : (d8 [x]).size + out.size ≤ 9223372036854775807 := by
  rw [bstr_one]; omega
theorem mark_sz0 {k z : Int} {out : ByteArray} (h : out.size + z.toNat ≤ k.toNat) (hk : k ≤ 4611686018427387904) : (⟨#[109]⟩ : ByteArray).size + out.size ≤ 9223372036854775807 := by
  have : (⟨#[109]⟩ : ByteArray).size = 1 := rfl
  rw [this]; omega
def bB (b : Int) : Pce := ⟨b, a6 (b + 1)⟩
def cC (b : Int) : Tup := ⟨b, b + 1, b + 2⟩
def ax {α : Type} (mk : Int → α) (c k : Int) (n : Nat) : List α := (List.range n).map fun (i : Nat) => mk (k + c * (i : Int))
theorem bF {α : Type} (mk : Int → α) (c k : Int) (n : Nat) : (ax mk c k n).length = n := by simp [ax]
theorem marks_get {α : Type} {mk : Int → α} {c k : Int} {n i : Nat} {x : α} (h : (ax mk c k n)[i]? = some x) : x = mk (k + c * (i : Int)) := by
  have hi : i < n := by have := (List.getElem?_eq_some_iff.1 h).1; simpa [ax] using this
  simp [ax, hi] at h; exact h.symm
theorem mark_same {α : Type} {f : α → List Value} {mk : Int → α} {c k : Int} {l : List α} {i : Nat} {x : α} (h : l[i]? = some x) : ((ax mk c k i ++ l.drop i).map f) = ((ax mk c k i ++ l.drop i).map f).set i (f x) := by
  have hg : ((ax mk c k i ++ l.drop i).map f)[i]? = some (f x) := by
    rw [List.getElem?_map, List.getElem?_append_right (by rw [bF]; exact Nat.le_refl _), bF, Nat.sub_self, List.getElem?_drop]
    simp [h]
  obtain ⟨hlt, e⟩ := List.getElem?_eq_some_iff.1 hg
  rw [← e]; exact (List.set_getElem_self hlt).symm
theorem mark_next {α : Type} {f : α → List Value} {mk : Int → α} {c k : Int} {l : List α} {i : Nat} (h : i < l.length) : ((ax mk c k i ++ l.drop i).map f).set i (f (mk (k + c * (i : Int)))) = ((ax mk c k (i + 1) ++ l.drop (i + 1)).map f) := by
  rw [← List.map_set]
  congr 1
  rw [List.set_append_right _ _ (by rw [bF]; exact Nat.le_refl _), bF, Nat.sub_self]
  have hd : l.drop i = l[i] :: l.drop (i + 1) := List.drop_eq_getElem_cons h
  rw [hd, List.set_cons_zero]
  simp [ax, List.range_succ]
theorem d5 {α : Type} {f : α → List Value} {mk : Int → α} {c k : Int} {l : List α} {i : Nat} (h : i ≤ l.length) : ((ax mk c k i ++ l.drop i).map f).length = l.length := by
  simp [bF]; omega
theorem wk_fact0 {t : List (Nat × AV)} {b : List Box} {r : List (List Value)} {f g : Fact} {fs : List Fact} (h : f = g) : Wk ⟨t, b, r, f :: fs⟩ ⟨t, b, r, g :: fs⟩ := h ▸ Wk.refl _
theorem xw_fact0 {P : Program} {n : Nat} {w0 : World} {QX : Exit → St → Prop} {t : List (Nat × AV)} {b : List Box} {r : List (List Value)} {f g : Fact} {fs : List Fact} {c : Code} (h : f = g) (h1 : XW P n w0 QX c ⟨t, b, r, g :: fs⟩) : XW P n w0 QX c ⟨t, b, r, f :: fs⟩ := h ▸ h1
theorem marks_ne {α : Type} {f : α → List Value} {mk : Int → α} {c k : Int} {l : List α} (h : (ax mk c k l.length).map f ≠ []) : l.map f ≠ [] := fun e => by
  have : l = [] := by simpa using e
  subst this; exact h rfl
theorem xcm_own {P : Program} {w0 : World} {fs : List Fact} {f : FuncId} {args : List Value} {B K : Nat} {v r : Value} {rs rs' : List (List Value)} (hne : rs' ≠ [] → rs ≠ [])
    (h : ∀ w, w0.heap.size ≤ w.heap.size → (∀ g ∈ fs, g.p w) → Calls P f args.toArray w fun e w' => e = .returned r ∧ Own w' B v K rs' ∧ Chgd (aw B v K rs).blk w w') :
    XCM P w0 fs (aw B v K rs).blk f args (α := Unit) (fun _ => r) (fun _ => [aw B v K rs']) := fun w hw hf => (h w hw hf).mono fun e w' ⟨he, ho, hc⟩ =>
  ⟨(), he, fun g hg => by
    have e : g = aw B v K rs' := (by simpa using hg)
    subst e; exact ⟨ho, fun b hb => .inl ⟨hne hb.1, hb.2⟩⟩, Apart.one _, hc⟩
theorem apart_fr {W : World} {B K : Nat} {v : Value} {rs : List (List Value)} : Apart [aw B v K rs, bU W (aw B v K rs).blk] := (Apart.one _).cons fun x hx b hb hxb => by
  have e : x = bU W (aw B v K rs).blk := (by simpa using hx)
  subst e; exact hxb.2 hb
end
/- Plain definitions: ax of tables (no program in sight). -/
section
open Go.RowKit
def mkQ (b : Int) (n : Nat) : Int := b + 12 + 2 * (n : Int)
def mkCon (b q : Int) (n : Nat) : Con := ⟨⟨b, b + 1, b + 2⟩, b + 3, ⟨b + 4, a6 (b + 5), b + 6, (b + 7).tmod 3 == 0, (b + 8).tmod 3 == 0, (b + 9).tmod 3 == 0⟩, ⟨b + 10, a6 (b + 11), ax bB 2 (b + 12) n, q, (q + 1).tmod 3 == 0⟩, q + 2, q + 3, ⟨q + 4, q + 5, (q + 6).tmod 3 == 0, (q + 7).tmod 3 == 0, q + 8, q + 9⟩, q + 10, q + 11⟩
def mkC (b : Int) (x : CV) : CV := (mkCon b (mkQ b x.1.r.held.length) x.1.r.held.length, x.2)
def aZ : List CV → Int
  | [] => 0
  | x :: l => 24 + 2 * (x.1.r.held.length : Int) + aZ l
def aE (k : Int) : List CV → List CV
  | [] => []
  | x :: l => mkC k x :: aE (k + (24 + 2 * (x.1.r.held.length : Int))) l
theorem mcnt_snoc (l : List CV) (x : CV) : aZ (l ++ [x]) = aZ l + (24 + 2 * (x.1.r.held.length : Int)) := by
  induction l with
  | nil => simp [aZ]
  | cons y l ih => simp only [List.cons_append, aZ]; rw [ih]; omega
theorem mkCs_snoc (l : List CV) (x : CV) : ∀ k : Int, aE k (l ++ [x]) = aE k l ++ [mkC (k + aZ l) x] := by
  induction l with
  | nil => intro k; simp [aE, aZ]
  | cons y l ih =>
    intro k
    simp only [List.cons_append, aE, aZ]
    rw [ih]
    congr 3
    rw [show k + (24 + 2 * (y.1.r.held.length : Int)) + aZ l = k + (24 + 2 * (y.1.r.held.length : Int) + aZ l) by omega]
theorem d7 (l : List CV) : ∀ k : Int, (aE k l).length = l.length := by
  induction l with
  | nil => intro k; rfl
  | cons y l ih => intro k; simp only [aE, List.length_cons]; rw [ih]
theorem take_snoc {l : List CV} {i : Nat} {x : CV} (hx : l[i]? = some x) : l.take (i + 1) = l.take i ++ [x] := by rw [List.take_add_one, hx]; rfl
theorem mcnt_next {l : List CV} {i : Nat} {x : CV} (hx : l[i]? = some x) : aZ (l.take (i + 1)) = aZ (l.take i) + (24 + 2 * (x.1.r.held.length : Int)) := by rw [take_snoc hx, mcnt_snoc]
theorem mcnt_bd {l : List CV} (h : ∀ x ∈ l, x.1.r.held.length ≤ 1048576) : 0 ≤ aZ l ∧ aZ l ≤ 2097176 * (l.length : Int) := by
  induction l with
  | nil => simp [aZ]
  | cons y l ih =>
    have h1 := h y (by simp)
    have h2 := ih fun x hx => h x (by simp [hx])
    simp only [aZ, List.length_cons]; omega
def mkAt (k : Int) (l : List CV) (i : Nat) : List CV := aE k (l.take i) ++ l.drop i
theorem mkAt_all (k : Int) (l : List CV) : mkAt k l l.length = aE k l := by unfold mkAt; rw [List.take_length, List.drop_length, List.append_nil]
theorem mkAt_len {k : Int} {l : List CV} {i : Nat} (hi : i ≤ l.length) : (mkAt k l i).length = l.length := by unfold mkAt; rw [List.length_append, d7, List.length_take, List.length_drop]; omega
theorem mkAt_get {k : Int} {l : List CV} {i : Nat} {x : CV} (hx : l[i]? = some x) : (mkAt k l i)[i]? = some x := by
  have hlt := (List.getElem?_eq_some_iff.1 hx).1
  unfold mkAt
  rw [List.getElem?_append_right (by rw [d7, List.length_take]; omega), d7, List.length_take, Nat.min_eq_left (by omega), Nat.sub_self, List.getElem?_drop, Nat.add_zero]; exact hx
theorem mkAt_next {k : Int} {l : List CV} {i : Nat} {x : CV} (hx : l[i]? = some x) : (mkAt k l i).set i (mkC (k + aZ (l.take i)) x) = mkAt k l (i + 1) := by
  obtain ⟨hlt, e⟩ := List.getElem?_eq_some_iff.1 hx
  unfold mkAt
  rw [take_snoc hx, mkCs_snoc, List.drop_eq_getElem_cons hlt, List.set_append_right _ _ (by rw [d7, List.length_take]; omega), d7, List.length_take, Nat.min_eq_left (by omega), Nat.sub_self, List.set_cons_zero, List.append_assoc]; rfl
theorem mkCs_get {l : List CV} {i : Nat} {x : CV} (k : Int) (hx : l[i]? = some x) : (aE k l)[i]? = some (mkC (k + aZ (l.take i)) x) := by
  have hlt := (List.getElem?_eq_some_iff.1 hx).1
  have h1 := mkAt_next (k := k) hx
  have h2 : (mkAt k l (i + 1))[i]? = some (mkC (k + aZ (l.take i)) x) := by rw [← h1, List.getElem?_set_self (by rw [mkAt_len (by omega)]; exact hlt)]
  unfold mkAt at h2
  have e : aE k l = aE k (l.take (i + 1) ++ l.drop (i + 1)) := by rw [List.take_append_drop]
  have key : ∀ (a b : List CV) (k : Int), aE k (a ++ b) = aE k a ++ aE (k + aZ a) b := by
    intro a
    induction a with
    | nil => intro b k; simp [aE, aZ]
    | cons y a ih =>
      intro b k
      simp only [List.cons_append, aE, aZ]
      rw [ih, show k + (24 + 2 * (y.1.r.held.length : Int)) + aZ a = k + (24 + 2 * (y.1.r.held.length : Int) + aZ a) by omega]
  rw [e, key, List.getElem?_append_left (by rw [d7, List.length_take]; omega)]
  rw [List.getElem?_append_left (by rw [d7, List.length_take]; omega)] at h2
  exact h2
end
/- Plain definitions: the pump (no program in sight). -/
section
open Go.RowKit
theorem ext_size (a : ByteArray) (i j : Nat) (h : j ≤ a.size) : (a.extract i j).size = j - i := by rw [ByteArray.size_extract]; omega
theorem chunkN_bd {s : Snd} {window mss : Int} (h : bP s = true) : 0 ≤ bG s window mss ∧ s.sent + bG s window mss ≤ s.data.size ∧ bG s window mss ≤ wnd s window ∧ 0 ≤ wnd s window ∧ wnd s window ≤ 1000000 := by
  obtain ⟨b0, b1, b2, b3, b4, b5, b6, b7, b8, b9, b10⟩ := de h
  unfold bG wnd; omega
theorem chunk_text {s : Snd} {window mss : Int} (h : bP s = true) : (s.data.extract s.sent.toNat (s.sent + bG s window mss).toNat).size = (bG s window mss).toNat := by
  obtain ⟨b0, b1, b2, b3, b4, b5, b6, b7, b8, b9, b10⟩ := de h
  obtain ⟨c0, c1, c2, c3, c4⟩ := chunkN_bd (window := window) (mss := mss) h
  rw [ext_size _ _ _ (by omega)]; omega
def mssO (o : Opt) : Int := if o.mss = 0 then 536 else max 1 (min o.mss 1460)
def meas (s : Snd) : Nat := (s.data.size - s.sent.toNat) + (if s.finSent then 0 else 1)
theorem next_ok {s : Snd} {window mss : Int} (h : (nC s window mss).2 = true) : bP s = true ∧ (nC s window mss).1 = ⟨nextOf s, s.data.extract s.sent.toNat (s.sent + bG s window mss).toNat, bY s window mss⟩ ∧ (bG s window mss ≠ 0 ∨ bY s window mss = true) := by
  unfold nC at h ⊢
  split at h
  · rename_i hs
    split at h
    · simp at h
    · rename_i hc
      refine ⟨hs, by rw [if_pos hs, if_neg hc], ?_⟩
      simp only [Bool.and_eq_true, decide_eq_true_eq, Bool.not_eq_true', not_and, Bool.not_eq_false] at hc
      by_cases h0 : bG s window mss = 0
      · exact .inr (hc h0)
      · exact .inl h0
  · simp at h
theorem sent_next {s : Snd} {window mss : Int} (h : (nC s window mss).2 = true) : sO s (nC s window mss).1 = { s with sent := s.sent + bG s window mss, finSent := s.finSent || bY s window mss } ∧ bP { s with sent := s.sent + bG s window mss, finSent := s.finSent || bY s window mss } = true := by
  obtain ⟨hs, hc, hne⟩ := next_ok h
  have hx := chunkN_bd (window := window) (mss := mss) hs
  have ht := chunk_text (window := window) (mss := mss) hs
  have hb := de hs
  obtain ⟨c0, c1, c2, c3, c4⟩ := hx
  obtain ⟨b0, b1, b2, b3, b4, b5, b6, b7, b8, b9, b10⟩ := hb
  have e : sentS s (nC s window mss).1 = { s with sent := s.sent + bG s window mss, finSent := s.finSent || bY s window mss } := by
    rw [hc]; unfold sentS; simp only [ht]
    rw [show s.sent + ((bG s window mss).toNat : Int) = s.sent + bG s window mss by omega, aj (by omega) (by omega)]
  have hs2 := hs
  unfold bP at hs2
  simp only [Bool.and_eq_true, decide_eq_true_eq, Bool.or_eq_true, Bool.not_eq_true'] at hs2
  have hok : bP { s with sent := s.sent + bG s window mss, finSent := s.finSent || bY s window mss } = true := by
    unfold bP
    simp only [Bool.and_eq_true, decide_eq_true_eq, Bool.or_eq_true, Bool.not_eq_true', inB]
    obtain ⟨⟨⟨⟨g1, g2⟩, g3⟩, g4⟩, g5⟩ := hs2
    refine ⟨⟨⟨⟨g1, g2⟩, by omega, by omega⟩, ?_⟩, ?_⟩
    · cases hf : bY s window mss
      · cases hq : s.finSent
        · exact .inl rfl
        · right
          have := b8 hq
          exact ⟨this.1, by omega⟩
      · right
        unfold bY at hf
        simp only [Bool.and_eq_true, decide_eq_true_eq, Bool.not_eq_true'] at hf
        exact ⟨hf.1, hf.2.2.2.1⟩
    · rcases g5 with g5 | g5
      · exact .inl g5
      · cases hd : s.done
        · exact .inl rfl
        · right
          refine ⟨⟨g5.1.1, ?_⟩, g5.2⟩
          have : bY s window mss = false := by unfold bY; simp [hd]
          rw [this, g5.1.2]; rfl
  refine ⟨?_, hok⟩
  unfold sO
  rw [e, hs, hok]
  have : ((nC s window mss).1.fin && s.done) = false := by
    rw [hc]; simp only
    cases hd : s.done
    · simp
    · unfold bY; simp [hd]
  rw [this]; rfl
theorem meas_next {s : Snd} {window mss : Int} (h : (nC s window mss).2 = true) : meas (sO s (nC s window mss).1) < meas s := by
  obtain ⟨e, -⟩ := sent_next h
  obtain ⟨hs, hc, hne⟩ := next_ok h
  obtain ⟨c0, c1, c2, c3, c4⟩ := chunkN_bd (window := window) (mss := mss) hs
  obtain ⟨b0, b1, b2, b3, b4, b5, b6, b7, b8, b9, b10⟩ := de hs
  rw [e]; unfold meas; simp only
  by_cases h0 : bG s window mss = 0
  · have hf : bY s window mss = true := hne.resolve_left (fun h => h h0)
    have hq : s.finSent = false := by unfold bY at hf; simp at hf; exact hf.2.1
    simp [h0, hf, hq]
  · cases hq : s.finSent <;> cases hf : bY s window mss <;> simp <;> omega
def pumpC (s : Snd) (window mss : Int) : Snd × List Chk :=
  if _h : (nC s window mss).2 = true then ((pumpC (sO s (nC s window mss).1) window mss).1, (nC s window mss).1 :: (pumpC (sO s (nC s window mss).1) window mss).2) else (s, [])
termination_by meas s
decreasing_by all_goals exact meas_next (by assumption)
def segOf (c : Con) (ch : Chk) : Seg := ⟨c.t.my, c.t.port, ch.seq, c.r.next, (if ch.text.toList.isEmpty then 16 else 24) + (if ch.fin then 1 else 0), wO c.r, ⟨0, -1, false, false, 0, 0⟩, ch.text⟩
def tmr {α : Type} (c : Con) (l : List α) : Int := if l.isEmpty then c.timer else if c.timer = 0 then 3 else c.timer
def pump (c : Con) (window : Int) : Con × List Seg :=
  if conOk c && (!decide (c.state = 8) && !decide (c.state = 7)) then
    ({ c with s := (pumpC c.s window (mssO c.o)).1, timer := tmr c ((pumpC c.s window (mssO c.o)).2.map (segOf c)) }, (pumpC c.s window (mssO c.o)).2.map (segOf c))
  else (c, [])
end
/- Plain definitions: calls and ticks (no program in sight). -/
section
open Go.RowKit
def write (c : Con) (text : ByteArray) : Con × Int × List Seg :=
  if conOk c && (decide (c.state = 1) || decide (c.state = 4)) then ((pump { c with s := (queued c.s text).1 } c.window).1, (queued c.s text).2, (pump { c with s := (queued c.s text).1 } c.window).2) else (c, 0, [])
end
/- Plain definitions: what is heard, and received (no program in sight). -/
section
open Go.RowKit
def heardMid (c : Con) (g : Seg) : Con :=
  if (acked c.s g.ack).2 then
    (if (¬ (acked c.s g.ack).1.una = c.s.una ∨ dq (acked c.s g.ack).1 = 0) ∧ ¬ c.state = 7 then
      { c with s := (acked c.s g.ack).1, window := farW g.window c.o, most := max c.most (farW g.window c.o), tries := 0, timer := if 0 < dq (acked c.s g.ack).1 then 3 else 0 }
     else { c with s := (acked c.s g.ack).1, window := farW g.window c.o, most := max c.most (farW g.window c.o) })
  else c
def heardR (c : Con) (g : Seg) : Rcv := if inB c.state 1 3 then arrived c.r g.seq g.body (hasF g.flags 1) else c.r
def heard (c : Con) (g : Seg) : Con := if verdict c g = 5 then turned { heardMid c g with r := heardR c g } else c
def answered (c : Con) (g : Seg) : Con × List Seg :=
  if c.state = 8 then (c, []) else ((pump c c.window).1, if 0 < segLen g ∧ (pump c c.window).2.length = 0 then [ackOf c] else (pump c c.window).2)
def received (c : Con) (g : Seg) : Con × List Seg × Int :=
  if verdict c g = 1 then (c, [], 1)
  else if verdict c g = 2 then ({ c with state := 8, timer := 0, tries := 0 }, [], 2)
  else if verdict c g = 3 then (c, [ackOf c], 3)
  else if verdict c g = 4 then (if c.state = 7 ∧ hasF g.flags 1 = true then { c with timer := 4 } else c, [ackOf c], 4)
  else ((answered (heard c g) g).1, (answered (heard c g) g).2, 5)
end
/- Plain definitions: the slots as two arrays, and what is kept of them (no program in sight). -/
section
open Go.RowKit
set_option linter.unusedVariables false
theorem apart_frS {gs : List Fact} {W : World} {S : Nat → Prop} (h : Apart gs) (hS : ∀ g ∈ gs, ∀ b, g.blk b → S b) : Apart (gs ++ [bU W S]) :=
  h.append (Apart.one _) fun f hf g hg b hb hgb => by
    obtain rfl : g = bU W S := by simpa using hg
    exact hgb.2 (hS f hf b hb)
end
/- The machine: tables that are marked by a call. -/
section
open Go.RowKit
set_option linter.unusedVariables false
def bn (B e : Nat) (v : Value) (l : List CV) : List Fact := [a8 B e 25 v (l.map a7), ay B l]
theorem mkCs_blk {B q : Nat} : ∀ (l : List CV) (k : Int), (ay B (aE k l)).blk q → (ay B l).blk q
  | [], _, h => h
  | x :: l, k, ⟨g, hg, hq⟩ => by
    simp only [aE, List.map_cons] at hg
    rcases List.mem_cons.1 hg with rfl | hg
    · refine ⟨hlF B x, by simp, ?_, hq.2⟩
      intro e
      refine hq.1 ?_
      have hl : x.1.r.held = [] := by simpa using e
      show (ax bB 2 (k + 12) x.1.r.held.length).map pC = []
      rw [hl]; rfl
    · obtain ⟨g', hg', hq'⟩ := mkCs_blk l _ (⟨g, hg, hq⟩ : (ay B (aE _ l)).blk q)
      exact ⟨g', by simp only [List.map_cons]; exact List.mem_cons_of_mem _ hg', hq'⟩
theorem tabR_blk {B e q : Nat} {v : Value} {l : List CV} {k : Int} (h : (ac (bn B e v (aE k l))).blk q) : (ac (bn B e v l)).blk q := by
  obtain ⟨g, hg, hq⟩ := h
  simp only [bn, List.mem_cons, List.not_mem_nil, or_false] at hg
  rcases hg with rfl | rfl
  · exact ⟨a8 B e 25 v (l.map a7), by simp [bn], hq⟩
  · exact ⟨ay B l, by simp [bn], mkCs_blk l k hq⟩
theorem xcm_all {P : Program} {w0 : World} {fs : List Fact} {f : FuncId} {args : List Value} {r : Value} {gs gs' : List Fact} (hblk : ∀ b, (ac gs').blk b → (ac gs).blk b)
    (h : ∀ w, w0.heap.size ≤ w.heap.size → (∀ g ∈ fs, g.p w) → Calls P f args.toArray w fun e w' => e = .returned r ∧ (ac gs').p w' ∧ Chgd (ac gs).blk w w') :
    XCM P w0 fs (ac gs).blk f args (α := Unit) (fun _ => r) (fun _ => [ac gs']) := fun w hw hf => (h w hw hf).mono fun e w' ⟨he, hp, hc⟩ =>
  ⟨(), he, fun g hg => by
    obtain rfl : g = ac gs' := by simpa using hg
    exact ⟨hp, fun b hb => .inl (hblk b hb)⟩, Apart.one _, hc⟩
theorem tabR_lo {B e q : Nat} {v : Value} {l : List CV} {w : World} (h : (ac (bn B e v l)).p w) (hq : (ac (bn B e v l)).blk q) : B ≤ q := by
  obtain ⟨g, hg, hq⟩ := hq
  have h1 := h.1 g hg
  simp only [bn, List.mem_cons, List.not_mem_nil, or_false] at hg
  rcases hg with rfl | rfl
  · exact dU h1 hq
  · exact hownF_lo h1 hq
def ck (B e : Nat) (v : Value) (l : List CV) (u : Value) (wt : List Tup) : List Fact := [a8 B e 25 v (l.map a7), ay B l, aw B u 3 (wt.map a5)]
theorem tabR_own {B e : Nat} {v : Value} {l : List CV} : ∀ g ∈ bn B e v l, g.own = true := fun g hg => by
  simp only [bn, List.mem_cons, List.not_mem_nil, or_false] at hg
  rcases hg with rfl | rfl <;> rfl
theorem tabG_own {B e : Nat} {v u : Value} {l : List CV} {wt : List Tup} : ∀ g ∈ ck B e v l u wt, g.own = true := fun g hg => by
  simp only [ck, List.mem_cons, List.not_mem_nil, or_false] at hg
  rcases hg with rfl | rfl | rfl <;> rfl
theorem tabG_lo {B e q : Nat} {v u : Value} {l : List CV} {wt : List Tup} {w : World} (h : (ac (ck B e v l u wt)).p w) (hq : (ac (ck B e v l u wt)).blk q) : B ≤ q := by
  obtain ⟨g, hg, hq⟩ := hq
  have h1 := h.1 g hg
  simp only [ck, List.mem_cons, List.not_mem_nil, or_false] at hg
  rcases hg with rfl | rfl | rfl
  · exact dU h1 hq
  · exact hownF_lo h1 hq
  · exact ownF_lo h1 hq
theorem tabG_blk {B e q : Nat} {v u : Value} {l : List CV} {wt : List Tup} {k k2 : Int} (h : (ac (ck B e v (aE k l) u (ax cC 3 k2 wt.length))).blk q) : (ac (ck B e v l u wt)).blk q := by
  obtain ⟨g, hg, hq⟩ := h
  simp only [ck, List.mem_cons, List.not_mem_nil, or_false] at hg
  rcases hg with rfl | rfl | rfl
  · exact ⟨a8 B e 25 v (l.map a7), by simp [ck], hq⟩
  · exact ⟨ay B l, by simp [ck], mkCs_blk l k hq⟩
  · exact ⟨aw B u 3 (wt.map a5), by simp [ck], marks_ne hq.1, hq.2⟩
section
variable {w0 : World} {b : List Box} {r : List (List Value)} {ρ : Nat → Nat} {σ : Nat → Nat × Nat} {w : World} {hs : List Fact} {B e : Nat} {v u : Value} {l : List CV} {wt : List Tup}
theorem tabR_in (h : XHeap w0 b r (a8 B e 25 v (l.map a7) :: ay B l :: hs) ρ σ w) : XHeap w0 b r (ac (bn B e v l) :: hs) ρ σ w := all_in (gs := bn B e v l) tabR_own ρ σ w h
theorem tabR_out (h : XHeap w0 b r (ac (bn B e v l) :: hs) ρ σ w) : XHeap w0 b r (a8 B e 25 v (l.map a7) :: ay B l :: hs) ρ σ w := all_out (gs := bn B e v l) ρ σ w h
theorem tabG_in (h : XHeap w0 b r (a8 B e 25 v (l.map a7) :: ay B l :: aw B u 3 (wt.map a5) :: hs) ρ σ w) : XHeap w0 b r (ac (ck B e v l u wt) :: hs) ρ σ w := all_in (gs := ck B e v l u wt) tabG_own ρ σ w h
theorem tabG_out (h : XHeap w0 b r (ac (ck B e v l u wt) :: hs) ρ σ w) : XHeap w0 b r (a8 B e 25 v (l.map a7) :: ay B l :: aw B u 3 (wt.map a5) :: hs) ρ σ w := all_out (gs := ck B e v l u wt) ρ σ w h
theorem row_weak {K : Nat} {rs : List (List Value)} (h : XHeap w0 b r (a8 B e K v rs :: hs) ρ σ w) : XHeap w0 b r (aw B v K rs :: hs) ρ σ w := h.weak rfl (fun hp => rowF_own hp) (fun q hq => rowF_blk hq)
end
end
/- The machine: a row of the call's own, swept in place by a test. -/
section
open Go.RowKit
set_option linter.unusedVariables false
set_option linter.unusedSimpArgs false
def nof (t : Tab) (x : Tup) : Bool := decide (ab t x < 0)
theorem swp_of {t : Tab} {c : Con} {b : Bool} (h1 : (c.state == 8) = true) (h : ci t.waiting c.t = b) : cD t.waiting c = !b := by unfold cD; rw [h1, h]; rfl
theorem swp_no {t : Tab} {c : Con} (h1 : (c.state == 8) = false) : cD t.waiting c = false := by unfold cD; rw [h1]; rfl
def iof {α : Type} (p : α → Bool) (l : List α) : Int := idxOf (l.findIdx? p)
section
variable {α : Type} {p q : α → Bool} {l R : List α} {i j k : Nat} {x : α}
theorem iof_eq (hk : l[k]? = some x) (hp : p x = true) (hno : ∀ (i : Nat) (h' : α), i < k → l[i]? = some h' → p h' = false) : iof p l = (k : Int) := by
  unfold iof; rw [findIdx_eq (p := p) hk hp hno]; rfl
theorem iof_no (hk : k = l.length) (hno : ∀ (i : Nat) (h' : α), i < k → l[i]? = some h' → p h' = false) : iof p l = -1 := by
  unfold iof; rw [findIdx_no (p := p) fun i h' hh => hno i h' (by rw [hk]; exact (List.getElem?_eq_some_iff.1 hh).1) hh]; rfl
theorem iof_none (h : iof p l = -1) : l.filter (fun x => !p x) = l := by
  unfold iof idxOf at h
  cases hq : l.findIdx? p with
  | none => rw [List.findIdx?_eq_none_iff] at hq; rw [List.filter_eq_self]; intro a ha; rw [hq a ha]; rfl
  | some i => rw [hq] at h; simp only at h; omega
theorem iof_nat (h : iof p l ≠ -1) : ∃ k : Nat, iof p l = (k : Int) := by
  unfold iof idxOf at h ⊢
  cases hq : l.findIdx? p with
  | none => rw [hq] at h; exact absurd rfl h
  | some i => exact ⟨i, rfl⟩
theorem iof_at (h : iof p l = (k : Int)) : k < l.length ∧ l.take k = (l.take (k + 1)).filter (fun x => !p x) := by
  unfold iof idxOf at h
  cases hq : l.findIdx? p with
  | none => rw [hq] at h; simp only at h; omega
  | some i =>
    rw [hq] at h; simp only at h
    obtain rfl : i = k := by omega
    obtain ⟨h1, h2, h3⟩ := List.findIdx?_eq_some_iff_getElem.1 hq
    refine ⟨h1, ?_⟩
    rw [List.take_add_one, List.getElem?_eq_getElem h1, List.filter_append]
    have e1 : (l.take i).filter (fun x => !p x) = l.take i := by
      rw [List.filter_eq_self]; intro a ha
      obtain ⟨n, hn⟩ := List.getElem?_of_mem ha
      rw [List.getElem?_take] at hn
      split at hn
      · obtain ⟨hl, he⟩ := List.getElem?_eq_some_iff.1 hn
        have := h3 n (by omega); rw [he] at this; simpa using this
      · cases hn
    rw [e1]; simp [h2]
theorem del_no (h : R.take i = (l.take j).filter q) (hx : l[j]? = some x) (hq : q x = false) : R.take i = (l.take (j + 1)).filter q := by
  rw [List.take_add_one, hx, List.filter_append, ← h]; simp [hq]
theorem del_yes (h : R.take i = (l.take j).filter q) (hx : l[j]? = some x) (hq : q x = true) (hi : i < R.length) : (R.set i x).take (i + 1) = (l.take (j + 1)).filter q := by
  rw [List.take_add_one (i := j), hx, List.filter_append, ← h, List.take_add_one, List.getElem?_set_self hi, List.take_set_of_le (Nat.le_refl _)]; simp [hq]
theorem del_drop (h : R.drop j = l.drop j) : R.drop (j + 1) = l.drop (j + 1) := by
  have := congrArg (List.drop 1) h; rw [List.drop_drop, List.drop_drop] at this; exact this
theorem del_dset (h : R.drop j = l.drop j) (hi : i ≤ j) : (R.set i x).drop (j + 1) = l.drop (j + 1) := by
  rw [List.drop_set_of_lt (by omega)]; exact del_drop h
theorem del_at (h : R.drop j = l.drop j) (hx : l[j]? = some x) : R[j]? = some x := by
  have h1 : (R.drop j)[0]? = (l.drop j)[0]? := by rw [h]
  rw [List.getElem?_drop, List.getElem?_drop] at h1; exact h1.trans hx
theorem del_end (h : R.take i = (l.take j).filter q) (hj : j = l.length) : R.take i = l.filter q := by
  rw [h, hj, List.take_length]
theorem del_len (h : R.take i = l.filter q) (hi : i ≤ R.length) : i = (l.filter q).length := by
  rw [← h, List.length_take]; omega
end
theorem sw_cap {A : Option Addr} {g cap : Nat} (K : Nat) (h : A = some ⟨g, 0, none⟩) : (if cap = 0 then A else A.map (·.add (0 * K))) = A := by
  subst h; split <;> simp [Addr.add]
theorem row_pre {w : World} {B e K N cap i : Nat} {A : Option Addr} {rs : List (List Value)} (hn : rs.length = N) (hi : i ≤ N) (h : (a8 B e K (.slice A N cap) rs).p w) : (a8 B e K (.slice A i cap) (rs.take i)).p w := by
  subst hn
  obtain ⟨⟨hfl, hor⟩, hK⟩ := h
  have hl : (rs.take i).length = i := by rw [List.length_take]; omega
  have hft := flat_take hK i
  have hm : i * K ≤ rs.length * K := Nat.mul_le_mul_right _ hi
  refine ⟨⟨?_, ?_⟩, fun r hr => hK r (List.mem_of_mem_take hr)⟩
  · rw [hft, hl, List.length_take, hfl]; exact Nat.min_eq_left hm
  · rcases hor with ⟨h1, h2⟩ | ⟨g, cap', cur, h1, hB, hg, hle, hmx, hcs, htk⟩
    · simp only [Value.slice.injEq] at h1
      obtain ⟨rfl, h3, rfl⟩ := h1
      have : i = 0 := by omega
      subst this; exact .inl ⟨rfl, by simp⟩
    · simp only [Value.slice.injEq] at h1
      obtain ⟨rfl, -, rfl⟩ := h1
      exact .inr ⟨g, cap, cur, by rw [hl], hB, hg, by omega, hmx, hcs, by rw [hl, hft, ← htk, List.take_take, Nat.min_eq_left hm]⟩
theorem rowpre_weak {w0 : World} {b : List Box} {r : List (List Value)} {ρ : Nat → Nat} {σ : Nat → Nat × Nat} {w : World} {hs : List Fact} {B e K N cap i : Nat} {A : Option Addr} {α : Type} {cf : α → List Value} {R : List α} (hn : R.length = N) (hi : i ≤ N)
    (h : XHeap w0 b r (a8 B e K (.slice A N cap) (R.map cf) :: hs) ρ σ w) : XHeap w0 b r (a8 B e K (.slice A i cap) ((R.take i).map cf) :: hs) ρ σ w := by
  rw [List.map_take]
  exact h.weak rfl (fun hp => row_pre (by rw [List.length_map]; exact hn) hi hp) (fun q hq => by cases A <;> exact hq)
theorem apart_own {f : Fact} {fs : List Fact} (ho : ∀ x ∈ fs, x.own = false) (h : ∀ x ∈ fs, ∀ b, f.blk b → ¬ x.blk b) : Apart (f :: fs) := (Apart.plain ho).cons h
theorem ret_sl {A : Option Addr} {n c : Nat} {A' : Option Addr} {n' c' : Nat} (h1 : A = A') (h2 : n = n') (h3 : c = c') : Ending.returned (.slice A n c) = .returned (.slice A' n' c') := by rw [h1, h2, h3]
theorem del_row {α : Type} {cf : α → List Value} {R NL : List α} {B e K i cap : Nat} {A : Option Addr} {w : World} (hR : R.take i = NL) (hi : i ≤ R.length) (h : (a8 B e K (.slice A i cap) ((R.take i).map cf)).p w) : (a8 B e K (.slice A NL.length cap) (NL.map cf)).p w := by
  subst hR; rw [List.length_take, Nat.min_eq_left hi]; exact h
theorem sl_blkA {A : Option Addr} {n n' c c' b : Nat} {B e K : Nat} {rs rs' : List (List Value)} (h : (a8 B e K (.slice A n c) rs).blk b) : (a8 B e K (.slice A n' c') rs').blk b := by cases A <;> exact h
theorem sweep_pl {l : List CV} {t : Tab} (h : pl l = pl t.conns) : pl (l.filter (fun c : CV => !cD t.waiting c.1)) = cU t := by
  unfold cU; rw [← h]; unfold pl; rw [List.filter_map]; rfl
theorem sweepW_nof (t : Tab) : az t = t.waiting.filter (fun x : Tup => !nof t x) := by
  have : (fun x => decide (0 ≤ ab t x)) = fun x => !nof t x := funext fun x => by
    unfold nof
    by_cases h : ab t x < 0
    · rw [decide_eq_true h, decide_eq_false (by omega)]; rfl
    · rw [decide_eq_false h, decide_eq_true (by omega)]; rfl
  unfold az; rw [this]
theorem xw_swap2 {P : Program} {n : Nat} {w0 : World} {QX : Exit → St → Prop} {c : Code} {s1 s2 : Nat} {b0 b1 : Box} {r : List (List Value)} {fs : List Fact} (h : XW P n w0 QX c ⟨[(s1, .p 1 0), (s2, .p 0 0)], [b1, b0], [], fs⟩) : XW P n w0 QX c ⟨[(s1, .p 0 0), (s2, .p 1 0)], [b0, b1], r, fs⟩ := fun ρ σ a w hr => by
  have hA := hr.1
  have hH : XHeap w0 [b0, b1] r fs ρ σ w := hr.2
  have h01 : ρ 0 ≠ ρ 1 := fun e => by have := hH.inj 0 1 (by simp) (by simp) e; omega
  refine h (fun i => if i = 0 then ρ 1 else ρ 0) σ a w ⟨⟨hA.size, hA.defers, fun t x hx => ?_⟩, ⟨hH.below, fun i b hi => ?_, fun i j hi hj e => ?_, fun k r hr => by simp at hr, fun f hf => ⟨(hH.fact f hf).1, fun i hi => ?_⟩, hH.apart⟩⟩
  · simp only [lkp] at hx
    split at hx
    · rename_i e; simp only [Option.some.injEq] at hx; subst hx
      have h0 := hA.tmps t (.p 0 0) (by simp only [lkp]; rw [if_pos e])
      exact ⟨by simp [AV.wf], h0.2⟩
    · rename_i e
      split at hx
      · rename_i e2; simp only [Option.some.injEq] at hx; subst hx
        have h0 := hA.tmps t (.p 1 0) (by simp only [lkp]; rw [if_neg e, if_pos e2])
        exact ⟨by simp [AV.wf], h0.2⟩
      · cases hx
  · match i, hi with
    | 0, hi => exact hH.box 1 b hi
    | 1, hi => exact hH.box 0 b hi
    | i + 2, hi => simp at hi
  · have hi' : i < 2 := hi
    have hj' : j < 2 := hj
    by_cases h1 : i = 0 <;> by_cases h2 : j = 0 <;> simp only [h1, h2, if_true, if_false] at e <;> first | omega | exact absurd e h01 | exact absurd e.symm h01
  · have h0 := (hH.fact f hf).2 0 (by simp)
    have h1 := (hH.fact f hf).2 1 (by simp)
    by_cases h : i = 0
    · simp only [h, if_true]; exact h1
    · simp only [h, if_false]; exact h0
theorem hld_hown {B b : Nat} {cs : List CV} (h : (ap cs).blk b) : (ay B cs).blk b := by
  obtain ⟨x, hx, hb⟩ := h
  exact ⟨hlF B x, List.mem_map_of_mem hx, hb⟩
end
/- Contracts: slices of connections in the laws. -/
section
open Go.RowKit
set_option linter.unusedVariables false
set_option linter.unusedSimpArgs false
set_option maxRecDepth 100000 in
theorem openSc_CON {H : Type} {enc : TypeId × Value → H} {W : World} {v : Value} {fuel : Nat} {x : DataW H × List MemPlace}
    (h : DataW.trod enc Try.prog W 0 (fun _ => true) true fuel 22 [v] = some x) : ∃ l : List CV, Sl W v 25 (l.map a7) ∧ (∀ x ∈ l, Sl W x.2 2 (x.1.r.held.map pC)) ∧ ∀ x ∈ l, conMax x.1 := by
  have hc : Try.prog.cellsOf 59 = 25 := by kernel_rfl
  haveI : Inhabited CV := ⟨(⟨⟨0, 0, 0⟩, 0, ⟨0, ⟨#[]⟩, 0, false, false, false⟩, ⟨0, ⟨#[]⟩, [], 0, false⟩, 0, 0, ⟨0, 0, false, false, 0, 0⟩, 0, 0⟩, .slice none 0 0)⟩
  rcases Go.Deep.open_slice Try.underlying22 h with ⟨hcs, -⟩ | ⟨a, len, cap, m, n, D, Pl, hcs, hb, hl, hm, hmm, hx, hi⟩
  · simp only [List.cons.injEq, and_true] at hcs
    subst hcs
    exact ⟨[], Sl.nil W 25, by simp, by simp⟩
  · have hs : ∀ i, i < len → ∃ x : CV, W.cells? 0 (a.add (i * 25)) 25 = some (a7 x) ∧ Sl W x.2 2 (x.1.r.held.map pC) ∧ conMax x.1 := fun i hlt => by
      obtain ⟨cs', h1, h2⟩ := hi i (by simp at hmm; omega)
      rw [hc] at h1
      obtain ⟨a_t_ip, a_t_port, a_t_my, a_state, a_s_una, a_s_data, a_s_sent, a_s_fin, a_s_finSent, a_s_done, a_r_next, a_r_data, a_r_held_v, a_r_fin, a_r_done, a_window, a_most, a_o_mss, a_o_scale, a_o_sack, a_o_stamp, a_o_val, a_o_echo, a_timer, a_tries, rfl, -, -, -, -, -, hsd, -, -, hrd, ⟨_, _, hT⟩, -⟩ := open_CON h2
      obtain ⟨pcs, hP, hPm⟩ := openSc_PCE hT
      exact ⟨(⟨⟨a_t_ip, a_t_port, a_t_my⟩, a_state, ⟨a_s_una, a_s_data, a_s_sent, a_s_fin, a_s_finSent, a_s_done⟩, ⟨a_r_next, a_r_data, pcs, a_r_fin, a_r_done⟩, a_window, a_most, ⟨a_o_mss, a_o_scale, a_o_sack, a_o_stamp, a_o_val, a_o_echo⟩, a_timer, a_tries⟩, a_r_held_v), h1, hP, hsd, hrd, hPm⟩
    obtain ⟨f, hf⟩ := Go.Deep.choose_lt hs
    refine ⟨(List.range len).map f, ?_⟩
    simp only [List.cons.injEq, and_true] at hcs
    rw [hcs, List.map_map]
    exact ⟨Sl.of_open hl hm (by omega) (fun i h => (hf i h).1), fun p hp => by obtain ⟨i, hi, rfl⟩ := List.mem_map.1 hp; exact (hf i (List.mem_range.1 hi)).2.1, fun p hp => by obtain ⟨i, hi, rfl⟩ := List.mem_map.1 hp; exact (hf i (List.mem_range.1 hi)).2.2⟩
end
end Go.Proofs.Ytnhpmgcllclhfaa
