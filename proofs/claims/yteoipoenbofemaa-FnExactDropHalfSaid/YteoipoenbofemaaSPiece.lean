/- Contracts: slices of Piece in the laws. -/
import Derived.Test.YteoipoenbofemaaR
import Derived.Test.YteoipoenbofemaaA3
import Derived.Test.YteoipoenbofemaaA4
namespace Go.Proofs.Yteoipoenbofemaa
open Go.RowKit
attribute [local go_sem] lt_gap le_gap eq_gap gap_eq lt_ones2 lt_ones3 lt_ones4 lt_ones5 lt_ones6 lt_ones7 lt_ones8 lt_gap_1 lt_gap_2 lt_gap_3 lt_gap_4 lt_gap_5 lt_gap_6 size_grow cell?_grow frozen?_grow setCell_grow drew_grow drewN_grow
attribute [local go_sem] boxOf_alloc_at boxOf_alloc_past boxOf_grow boxOf_drew boxOf_drewN isBox_alloc_at isBox_alloc_past isBox_grow isBox_drew isBox_drewN putAt_all putAt setCells_alloc_at setCells_alloc_past setCells_grow setCells_drew
set_option linter.unusedVariables false
set_option linter.unusedSimpArgs false

theorem pceCells_len (x : Pce) : (pceCells x).length = 2 := rfl
theorem pceRows_len (l : List Pce) : ∀ r ∈ l.map pceCells, r.length = 2 := fun r h => by obtain ⟨x, -, rfl⟩ := List.mem_map.1 h; rfl
theorem Try.info_Piece : (Try.prog.info? 130).map (fun i => (i.zero, i.size, i.bytes)) = some (some (.agg #[.int .i64 0, .string ⟨#[]⟩]), 2, 24) := by kernel_rfl
set_option maxRecDepth 100000 in
set_option maxHeartbeats 1000000 in
theorem toPieceS_c (v : Value) (l : List Pce) (w : World) (hl : Sl w v 2 (l.map pceCells)) (hn : l.length ≤ 1048576) : Calls Try.prog 90 #[v] w fun e w' => ∃ v', e = .returned v' ∧ Own w' w.heap.size v' 2 (l.map pceCells) ∧ Below w.heap.size w w' := by
  obtain ⟨a, cap, rfl, h2, h3, h4, h5⟩ := hl
  simp only [List.length_map] at h2 ⊢
  unfold maxLen at h3
  have H5 := Lib.hid h5; clear h5
  obtain ⟨i0, hi, hz0, hz1, hz2⟩ := info_parts Try.info_Piece
  have his : (Try.prog.info? 130).map (·.size) = some 2 := by rw [hi]; simp [hz1]
  have HI := Lib.hid hi; clear hi
  go_enter Try.func90, Try.ntmps90
  go_wp2_with ((refine wpList_make_full _ rfl _ _ 47 rfl w.heap.size 130 i0 _ 2 Try.underlying47 HI.out hz0 hz1 .i64 .i64 _ _ l.length (by rfl) (by rfl) (by rfl) (by rfl) (by rw [hz2]; omega) (by unfold maxLen; omega) (Nat.le_refl _) ?_); intro w1 hown hgrow)
  have hF : Fill w1 w.heap.size l.length 2 (l.map pceCells) 0 := Fill.start hown
  have hB : Below w.heap.size w w1 := (Below.refl _ _).grown hgrow (Nat.le_refl _) (fun k h => by simp at h)
  have hsz : w.heap.size < w1.heap.size := by
    rcases hown.2 with ⟨h, _⟩ | ⟨g, cap, cur, h, _, hh, _⟩
    · simp at h
    · simp at h; obtain ⟨rfl, rfl⟩ := h; exact (Array.getElem?_eq_some_iff.1 hh).1
  clear hown hgrow
  go_loopw [4] (fun i wr => ∃ k : Nat, k ≤ l.length ∧ i = .int .i64 k ∧ Below w.heap.size w wr ∧ w.heap.size < wr.heap.size ∧ Hid (Fill wr w.heap.size l.length 2 (l.map pceCells) k)) (fun i _ => l.length - (intOf i).toNat)
  case atStart => exact ⟨0, Nat.zero_le _, rfl, hB, hsz, hF⟩
  case round =>
    clear hF hB hsz
    obtain ⟨k, hk, rfl, hB, hsz, hF⟩ := hrel
    by_cases hlt : k < l.length
    · obtain ⟨x, hx⟩ : ∃ x, l[k]? = some x := ⟨_, List.getElem?_eq_getElem hlt⟩
      obtain ⟨b, off, rfl, hbw, hr⟩ := H5.out k (pceCells x) (by simp [hx])
      have hr := Below.rangeAt hB hbw hr
      have hrow : (l.map pceCells)[k]? = some (pceCells x) := by simp [hx]
      have HX := Lib.hid hrow; clear hx hrow
      obtain ⟨x_off, x_text⟩ := x
      have c0 := hr 0 _ rfl
      have c1 := hr 1 _ rfl
      simp only [Nat.add_zero] at c0
      clear hr
      have hk0 : (0 : Int) ≤ (k : Int) := Int.natCast_nonneg _
      have hk1 : (k : Int) < (l.length : Int) := by omega
      go_wp2_with (go_at_call 140; with_reducible refine (toPiece_c _ _ _).mono ?_; rintro e w2 ⟨rfl, hb2⟩; have hF2 := Lib.hid (hF.out.below hb2 hsz); obtain ⟨⟨o0, ho0⟩, ff0⟩ := Fill.old hF2.out hlt 0 (by omega); obtain ⟨⟨o1, ho1⟩, ff1⟩ := Fill.old hF2.out hlt 1 (by omega); simp only [Nat.add_zero] at ho0 ff0)
      have hst := hF2.out.step (pceRows_len l) HX.out (by simp)
      have hB2 : Below w.heap.size w (w2.setCells w.heap.size (k * 2) (pceCells ⟨x_off, x_text⟩)) := Below.setCells (Nat.le_refl _) _ _ (hB.trans (hb2.mono (by omega)))
      have hs2 : w.heap.size < (w2.setCells w.heap.size (k * 2) (pceCells ⟨x_off, x_text⟩)).heap.size := by rw [size_setCells]; have := hb2.size; omega
      have HS := Lib.hid hst; clear hst
      go_wp2
      go_roundw
      case rel => exact ⟨k + 1, by omega, by go_num, hB2, hs2, HS.out⟩
      case measure => simp [intOf]; omega
    · obtain rfl : k = l.length := by omega
      go_wp2
      refine bodyPost_ret (by simp [results, Try.results90]) rfl ⟨_, rfl, hF.out.own (by simp) (Nat.le_refl _) hsz (by unfold maxLen; omega), hB⟩
theorem eqPiece_o (x : Pce) (w : World) : Calls Try.prog 143 #[.agg (pceCells x).toArray, .agg (pceCells x).toArray] w fun e w' => e = .returned (.bool true) ∧ Below w.heap.size w w' := eqPiece_c x.off x.text w
set_option maxHeartbeats 1000000 in
theorem eqPieceS_c (v u : Value) (l : List Pce) (w : World) (hl : Sl w v 2 (l.map pceCells)) (hu : Sl w u 2 (l.map pceCells)) : Calls Try.prog 97 #[v, u] w fun e w' => e = .returned (.bool true) ∧ Below w.heap.size w w' := by
  obtain ⟨a, cap, rfl, h2, h3, h4, h5⟩ := hl
  obtain ⟨a', cap', rfl, h2', h3', h4', h5'⟩ := hu
  simp only [List.length_map] at h2 h2' ⊢
  unfold maxLen at h3 h3'
  have H5 := Lib.hid h5; clear h5
  have H5' := Lib.hid h5'; clear h5'
  go_enter Try.func97, Try.ntmps97
  go_wp2
  go_loopw [5] (fun i wr => ∃ k : Nat, k ≤ l.length ∧ i = .int .i64 k ∧ Below w.heap.size w wr) (fun i _ => l.length - (intOf i).toNat)
  case atStart => exact ⟨0, Nat.zero_le _, rfl, Below.refl _ _⟩
  case round =>
    obtain ⟨k, hk, rfl, hB⟩ := hrel
    by_cases hlt : k < l.length
    · obtain ⟨x, hx⟩ : ∃ x, l[k]? = some x := ⟨_, List.getElem?_eq_getElem hlt⟩
      obtain ⟨b, off, rfl, hbw, hr⟩ := H5.out k (pceCells x) (by simp [hx])
      obtain ⟨b', off', rfl, hbw', hr'⟩ := H5'.out k (pceCells x) (by simp [hx])
      have hr := Below.rangeAt hB hbw hr
      have hr' := Below.rangeAt hB hbw' hr'
      have hbz : b < wr.heap.size := by have := hB.size; omega
      have hbz' : b' < wr.heap.size := by have := hB.size; omega
      clear hx
      have hk0 : (0 : Int) ≤ (k : Int) := Int.natCast_nonneg _
      have hk1 : (k : Int) < (l.length : Int) := by omega
      have hBs := hB.size
      obtain ⟨x_off, x_text⟩ := x
      have c0 := hr 0 _ rfl
      have c1 := hr 1 _ rfl
      have d0 := hr' 0 _ rfl
      have d1 := hr' 1 _ rfl
      simp only [Nat.add_zero] at c0 d0
      clear hr hr'
      go_wp2
      go_region_held3 (fun w' => w'.cell? ⟨b, off + k * 2, none⟩ = some (.int .i64 x_off) ∧ w'.cell? ⟨b, off + k * 2 + 1, none⟩ = some (.string x_text) ∧ w'.cell? ⟨b', off' + k * 2, none⟩ = some (.int .i64 x_off) ∧ w'.cell? ⟨b', off' + k * 2 + 1, none⟩ = some (.string x_text))
        (first | exact ⟨(hb2.cell (p := ⟨b, _, none⟩) hbz).trans c0, (hb2.cell (p := ⟨b, _, none⟩) hbz).trans c1, (hb2.cell (p := ⟨b', _, none⟩) hbz').trans d0, (hb2.cell (p := ⟨b', _, none⟩) hbz').trans d1⟩ | go_keep)
        (first | (go_at_call 143; refine (eqPiece_c x_off x_text _).mono ?_; rintro e w2 ⟨rfl, hb2⟩))
      go_wp2
      go_roundw
      case rel => exact ⟨k + 1, by omega, by go_num, by (repeat' (first | (with_reducible exact Below.refl _ _) | (with_reducible refine Below.alloc ?_ ?_ _) | (with_reducible refine belowGrow ?_ ?_ _ _) | (with_reducible refine Below.setCell ?_ ?_ _) | (with_reducible refine Below.drew ?_) | (with_reducible refine bdrewN ?_ _) | (with_reducible assumption) | (with_reducible refine bstep ?_ (by assumption) ?_) | (simp only [World.size_alloc, World.size_setCell, World.size_drew, World.heap_drewN, size_grow]; done) | (simp only [World.size_alloc, World.size_setCell, World.size_drew, World.heap_drewN, size_grow]; omega) | omega))⟩
      case measure => simp [intOf]; omega
    · obtain rfl : k = l.length := by omega
      go_wp2
      refine bodyPost_ret (v := .bool true) (by simp [results, Try.results97]) rfl ⟨rfl, hB⟩
end Go.Proofs.Yteoipoenbofemaa
