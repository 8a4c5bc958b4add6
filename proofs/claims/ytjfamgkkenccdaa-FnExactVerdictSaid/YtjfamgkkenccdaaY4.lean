/- Contracts (Y4). -/
import Derived.Test.YtjfamgkkenccdaaY3i
import Derived.Test.YtjfamgkkenccdaaME
namespace Go.Proofs.Ytjfamgkkenccdaa
open Go.RowKit
set_option linter.unusedVariables false
set_option linter.unusedSimpArgs false
set_option maxRecDepth 100000

theorem ysSegmentOk_c (g : Seg) (w : World) (hsz : g.body.size ≤ 4611686018427387904) : Calls Try.prog 64 #[.agg (segL g).toArray] w fun e w' => e = .returned (.bool (segmentOk g)) ∧ Below w.heap.size w w' := by
  refine x_calls (args := [.agg (segL g).toArray]) (fn := Try.f64) [] Try.func64 rfl Try.ntmps64 rfl (by simp) ?_
  refine xw_seq ?_
  refine xw_region ?_
  refine xl_end [1] ⟨[(1, .p 0 0)], [⟨51, segL g⟩], [], []⟩ (by kernel_rfl) ?_
  refine xw_seq ?_
  refine xw_region ?_
  refine xl_call 2 [1, 4] ⟨[(1, .p 0 0), (4, .v (.int .i64 g.src))], [⟨51, segL g⟩], [], []⟩ 84 [.int .i64 g.src, .int .i64 16] (some 5) (by kernel_rfl) rfl (by kernel_rfl) rfl (by kernel_rfl) (xc_s fun ww hf => sWordOk16_c g.src ww) ?_
  intro _
  refine xl_run 1 [1, 6] ⟨[(1, .p 0 0), (6, .v (.bool (wordOk g.src 16)))], [⟨51, segL g⟩], [], []⟩ (by kernel_rfl) ?_
  refine xl_split 6 (b := wordOk g.src 16) (by kernel_rfl) (fun h1 => ?_) (fun h1 => ?_)
  · skip
    refine xl_call 2 [1, 6, 8] ⟨[(1, .p 0 0), (6, .v (.bool true)), (8, .v (.int .i64 g.dst))], [⟨51, segL g⟩], [], []⟩ 84 [.int .i64 g.dst, .int .i64 16] (some 9) (by kernel_rfl) rfl (by kernel_rfl) rfl (by kernel_rfl) (xc_s fun ww hf => sWordOk16_c g.dst ww) ?_
    intro _
    refine xl_run 2 [1, 11] ⟨[(1, .p 0 0), (11, .v (.bool (wordOk g.dst 16)))], [⟨51, segL g⟩], [], []⟩ (by kernel_rfl) ?_
    refine xl_split 11 (b := wordOk g.dst 16) (by kernel_rfl) (fun h2 => ?_) (fun h2 => ?_)
    · skip
      refine xl_call 2 [1, 11, 13] ⟨[(1, .p 0 0), (11, .v (.bool true)), (13, .v (.int .i64 g.window))], [⟨51, segL g⟩], [], []⟩ 84 [.int .i64 g.window, .int .i64 16] (some 14) (by kernel_rfl) rfl (by kernel_rfl) rfl (by kernel_rfl) (xc_s fun ww hf => sWordOk16_c g.window ww) ?_
      intro _
      refine xl_run 2 [1, 16] ⟨[(1, .p 0 0), (16, .v (.bool (wordOk g.window 16)))], [⟨51, segL g⟩], [], []⟩ (by kernel_rfl) ?_
      refine xl_split 16 (b := wordOk g.window 16) (by kernel_rfl) (fun h3 => ?_) (fun h3 => ?_)
      · skip
        refine xl_call 2 [1, 16, 18] ⟨[(1, .p 0 0), (16, .v (.bool true)), (18, .v (.int .i64 g.seq))], [⟨51, segL g⟩], [], []⟩ 84 [.int .i64 g.seq, .int .i64 32] (some 19) (by kernel_rfl) rfl (by kernel_rfl) rfl (by kernel_rfl) (xc_s fun ww hf => sWordOk32_c g.seq ww) ?_
        intro _
        refine xl_run 2 [1, 21] ⟨[(1, .p 0 0), (21, .v (.bool (wordOk g.seq 32)))], [⟨51, segL g⟩], [], []⟩ (by kernel_rfl) ?_
        refine xl_split 21 (b := wordOk g.seq 32) (by kernel_rfl) (fun h4 => ?_) (fun h4 => ?_)
        · skip
          refine xl_call 2 [1, 21, 23] ⟨[(1, .p 0 0), (21, .v (.bool true)), (23, .v (.int .i64 g.ack))], [⟨51, segL g⟩], [], []⟩ 84 [.int .i64 g.ack, .int .i64 32] (some 24) (by kernel_rfl) rfl (by kernel_rfl) rfl (by kernel_rfl) (xc_s fun ww hf => sWordOk32_c g.ack ww) ?_
          intro _
          refine xl_run 2 [1, 26] ⟨[(1, .p 0 0), (26, .v (.bool (wordOk g.ack 32)))], [⟨51, segL g⟩], [], []⟩ (by kernel_rfl) ?_
          refine xl_split 26 (b := wordOk g.ack 32) (by kernel_rfl) (fun h5 => ?_) (fun h5 => ?_)
          · skip
            refine xl_call 2 [1, 26, 28] ⟨[(1, .p 0 0), (26, .v (.bool true)), (28, .v (.int .i64 g.flags))], [⟨51, segL g⟩], [], []⟩ 84 [.int .i64 g.flags, .int .i64 6] (some 29) (by kernel_rfl) rfl (by kernel_rfl) rfl (by kernel_rfl) (xc_s fun ww hf => sWordOk6_c g.flags ww) ?_
            intro _
            refine xl_run 2 [1, 31] ⟨[(1, .p 0 0), (31, .v (.bool (wordOk g.flags 6)))], [⟨51, segL g⟩], [], []⟩ (by kernel_rfl) ?_
            refine xl_split 31 (b := wordOk g.flags 6) (by kernel_rfl) (fun h6 => ?_) (fun h6 => ?_)
            · skip
              refine xl_call 2 [1, 31, 33] ⟨[(1, .p 0 0), (31, .v (.bool true)), (33, .v (.agg (optL g.o).toArray))], [⟨51, segL g⟩], [], []⟩ 85 [.agg (optL g.o).toArray] (some 34) (by kernel_rfl) rfl (by kernel_rfl) rfl (by kernel_rfl) (xc_b fun ww hf => sOptionsOk_c g.o.mss g.o.scale g.o.sack g.o.stamp g.o.val g.o.echo ww ) ?_
              intro _
              refine xl_run 2 [1, 36] ⟨[(1, .p 0 0), (36, .v (.bool (optionsOk g.o)))], [⟨51, segL g⟩], [], []⟩ (by kernel_rfl) ?_
              refine xl_split 36 (b := optionsOk g.o) (by kernel_rfl) (fun h7 => ?_) (fun h7 => ?_)
              · skip
                refine xl_end [2] ⟨[(2, .v (.bool (decide ((g.body.size : Int) ≤ 1420))))], [⟨51, segL g⟩], [], []⟩ (by kernel_rfl) ?_
                refine xw_ret ?_
                exact ⟨[.bool (decide ((g.body.size : Int) ≤ 1420))], by kernel_rfl, fun w' hb hf => ⟨ret_bool (show (decide ((g.body.size : Int) ≤ 1420) : Bool) = segmentOk g from by first | rfl | (simp [segmentOk, *]; done) | (simp [segmentOk, *]; omega) | grind [toList_lit0, segmentOk]), hb⟩⟩
              · skip
                refine xl_end [2] ⟨[(2, .v (.bool false))], [⟨51, segL g⟩], [], []⟩ (by kernel_rfl) ?_
                refine xw_ret ?_
                exact ⟨[.bool false], by kernel_rfl, fun w' hb hf => ⟨ret_bool (show (false : Bool) = segmentOk g from by first | rfl | (simp [segmentOk, *]; done) | (simp [segmentOk, *]; omega) | grind [toList_lit0, segmentOk]), hb⟩⟩
            · skip
              refine xl_end [2] ⟨[(2, .v (.bool false))], [⟨51, segL g⟩], [], []⟩ (by kernel_rfl) ?_
              refine xw_ret ?_
              exact ⟨[.bool false], by kernel_rfl, fun w' hb hf => ⟨ret_bool (show (false : Bool) = segmentOk g from by first | rfl | (simp [segmentOk, *]; done) | (simp [segmentOk, *]; omega) | grind [toList_lit0, segmentOk]), hb⟩⟩
          · skip
            refine xl_end [2] ⟨[(2, .v (.bool false))], [⟨51, segL g⟩], [], []⟩ (by kernel_rfl) ?_
            refine xw_ret ?_
            exact ⟨[.bool false], by kernel_rfl, fun w' hb hf => ⟨ret_bool (show (false : Bool) = segmentOk g from by first | rfl | (simp [segmentOk, *]; done) | (simp [segmentOk, *]; omega) | grind [toList_lit0, segmentOk]), hb⟩⟩
        · skip
          refine xl_end [2] ⟨[(2, .v (.bool false))], [⟨51, segL g⟩], [], []⟩ (by kernel_rfl) ?_
          refine xw_ret ?_
          exact ⟨[.bool false], by kernel_rfl, fun w' hb hf => ⟨ret_bool (show (false : Bool) = segmentOk g from by first | rfl | (simp [segmentOk, *]; done) | (simp [segmentOk, *]; omega) | grind [toList_lit0, segmentOk]), hb⟩⟩
      · skip
        refine xl_end [2] ⟨[(2, .v (.bool false))], [⟨51, segL g⟩], [], []⟩ (by kernel_rfl) ?_
        refine xw_ret ?_
        exact ⟨[.bool false], by kernel_rfl, fun w' hb hf => ⟨ret_bool (show (false : Bool) = segmentOk g from by first | rfl | (simp [segmentOk, *]; done) | (simp [segmentOk, *]; omega) | grind [toList_lit0, segmentOk]), hb⟩⟩
    · skip
      refine xl_end [2] ⟨[(2, .v (.bool false))], [⟨51, segL g⟩], [], []⟩ (by kernel_rfl) ?_
      refine xw_ret ?_
      exact ⟨[.bool false], by kernel_rfl, fun w' hb hf => ⟨ret_bool (show (false : Bool) = segmentOk g from by first | rfl | (simp [segmentOk, *]; done) | (simp [segmentOk, *]; omega) | grind [toList_lit0, segmentOk]), hb⟩⟩
  · skip
    refine xl_end [2] ⟨[(2, .v (.bool false))], [⟨51, segL g⟩], [], []⟩ (by kernel_rfl) ?_
    refine xw_ret ?_
    exact ⟨[.bool false], by kernel_rfl, fun w' hb hf => ⟨ret_bool (show (false : Bool) = segmentOk g from by first | rfl | (simp [segmentOk, *]; done) | (simp [segmentOk, *]; omega) | grind [toList_lit0, segmentOk]), hb⟩⟩
theorem ysVerdict_c (c : Con) (c_r_heldV : Value) (g : Seg) (w : World) (hl_c_r_heldV : Sl w c_r_heldV 2 (c.r.held.map pceCells)) (hgz : g.body.size ≤ 1048576) (hm : ∀ p ∈ c.r.held, p.text.size ≤ 1048576) (hsz : c.r.data.size ≤ 4611686018427387904) : Calls Try.prog 21 #[.agg (conL c c_r_heldV).toArray, .agg (segL g).toArray] w fun e w' => e = .returned (.int .i64 (verdict c g)) ∧ Below w.heap.size w w' := by
  obtain ⟨ra_c_r_heldV, rc_c_r_heldV, hv_c_r_heldV⟩ := hl_c_r_heldV.form
  rw [List.length_map] at hv_c_r_heldV; subst hv_c_r_heldV
  have hn_c_r_heldV := hl_c_r_heldV.len; rw [List.length_map] at hn_c_r_heldV
  refine x_calls (args := [.agg (conL c (.slice ra_c_r_heldV c.r.held.length rc_c_r_heldV)).toArray, .agg (segL g).toArray]) (fn := Try.f21) [slF (.slice ra_c_r_heldV c.r.held.length rc_c_r_heldV) 2 (c.r.held.map pceCells)] Try.func21 rfl Try.ntmps21 rfl (by simp only [List.mem_cons, List.not_mem_nil, or_false, forall_eq_or_imp, forall_eq]; exact ⟨rfl, hl_c_r_heldV⟩) ?_
  refine xw_seq ?_
  refine xw_region ?_
  refine xl_end [2, 3] ⟨[(2, .p 0 0), (3, .p 1 0)], [⟨42, conL c (.slice ra_c_r_heldV c.r.held.length rc_c_r_heldV)⟩, ⟨51, segL g⟩], [], [slF (.slice ra_c_r_heldV c.r.held.length rc_c_r_heldV) 2 (c.r.held.map pceCells)]⟩ (by kernel_rfl) ?_
  refine xw_seq ?_
  refine xw_block ?_
  refine xw_seq ?_
  refine xw_region ?_
  refine xl_call 1 [2, 3, 6] ⟨[(2, .p 0 0), (3, .p 1 0), (6, .v (.agg (conL c (.slice ra_c_r_heldV c.r.held.length rc_c_r_heldV)).toArray))], [⟨42, conL c (.slice ra_c_r_heldV c.r.held.length rc_c_r_heldV)⟩, ⟨51, segL g⟩], [], [slF (.slice ra_c_r_heldV c.r.held.length rc_c_r_heldV) 2 (c.r.held.map pceCells)]⟩ 63 [.agg (conL c (.slice ra_c_r_heldV c.r.held.length rc_c_r_heldV)).toArray] (some 7) (by kernel_rfl) rfl (by kernel_rfl) rfl (by kernel_rfl) (xc_b fun ww hf => ysConnOk_c c (.slice ra_c_r_heldV c.r.held.length rc_c_r_heldV) ww (hf (slF (.slice ra_c_r_heldV c.r.held.length rc_c_r_heldV) 2 (c.r.held.map pceCells)) (by simp)) (by assumption) (by omega)) ?_
  intro _
  refine xl_run 2 [2, 3, 9] ⟨[(2, .p 0 0), (3, .p 1 0), (9, .v (.bool (!(conOk c))))], [⟨42, conL c (.slice ra_c_r_heldV c.r.held.length rc_c_r_heldV)⟩, ⟨51, segL g⟩], [], [slF (.slice ra_c_r_heldV c.r.held.length rc_c_r_heldV) 2 (c.r.held.map pceCells)]⟩ (by kernel_rfl) ?_
  refine xl_split 9 (b := !(conOk c)) (by kernel_rfl) (fun h1 => ?_) (fun h1 => ?_)
  · skip
    refine xl_end [2, 3, 5] ⟨[(2, .p 0 0), (3, .p 1 0), (5, .v (.bool true))], [⟨42, conL c (.slice ra_c_r_heldV c.r.held.length rc_c_r_heldV)⟩, ⟨51, segL g⟩], [], [slF (.slice ra_c_r_heldV c.r.held.length rc_c_r_heldV) 2 (c.r.held.map pceCells)]⟩ (by kernel_rfl) ?_
    refine xw_true (by kernel_rfl) ?_
    refine xw_seq ?_
    refine xw_region ?_
    refine xl_end [4] ⟨[(4, .v (.int .i64 1))], [⟨42, conL c (.slice ra_c_r_heldV c.r.held.length rc_c_r_heldV)⟩, ⟨51, segL g⟩], [], [slF (.slice ra_c_r_heldV c.r.held.length rc_c_r_heldV) 2 (c.r.held.map pceCells)]⟩ (by kernel_rfl) ?_
    refine xw_ret ?_
    have hmod : verdict c g = 1 := by first | rfl | (simp [verdict, *]; done) | grind [verdict]
    exact ⟨[.int .i64 1], by kernel_rfl, fun w' hb hf => by rw [hmod]; exact ⟨rfl, hb⟩⟩
  · skip
    refine xl_run 5 [2, 3, 14] ⟨[(2, .p 0 0), (3, .p 1 0), (14, .v (.bool (c.state == 8)))], [⟨42, conL c (.slice ra_c_r_heldV c.r.held.length rc_c_r_heldV)⟩, ⟨51, segL g⟩], [], [slF (.slice ra_c_r_heldV c.r.held.length rc_c_r_heldV) 2 (c.r.held.map pceCells)]⟩ (by kernel_rfl) ?_
    refine xl_split 14 (b := c.state == 8) (by kernel_rfl) (fun h2 => ?_) (fun h2 => ?_)
    · skip
      have h2p := h2; simp only [beq_iff_eq, bne_iff_ne, beq_eq_false_iff_ne, bne_eq_false_iff_eq, ne_eq, toList_lit0] at h2p
      refine xl_end [2, 3, 5] ⟨[(2, .p 0 0), (3, .p 1 0), (5, .v (.bool true))], [⟨42, conL c (.slice ra_c_r_heldV c.r.held.length rc_c_r_heldV)⟩, ⟨51, segL g⟩], [], [slF (.slice ra_c_r_heldV c.r.held.length rc_c_r_heldV) 2 (c.r.held.map pceCells)]⟩ (by kernel_rfl) ?_
      refine xw_true (by kernel_rfl) ?_
      refine xw_seq ?_
      refine xw_region ?_
      refine xl_end [4] ⟨[(4, .v (.int .i64 1))], [⟨42, conL c (.slice ra_c_r_heldV c.r.held.length rc_c_r_heldV)⟩, ⟨51, segL g⟩], [], [slF (.slice ra_c_r_heldV c.r.held.length rc_c_r_heldV) 2 (c.r.held.map pceCells)]⟩ (by kernel_rfl) ?_
      refine xw_ret ?_
      have hmod : verdict c g = 1 := by first | rfl | (simp [verdict, *]; done) | grind [verdict]
      exact ⟨[.int .i64 1], by kernel_rfl, fun w' hb hf => by rw [hmod]; exact ⟨rfl, hb⟩⟩
    · skip
      have h2p := h2; simp only [beq_iff_eq, bne_iff_ne, beq_eq_false_iff_ne, bne_eq_false_iff_eq, ne_eq, toList_lit0] at h2p
      refine xl_call 1 [2, 3, 14, 15] ⟨[(2, .p 0 0), (3, .p 1 0), (14, .v (.bool false)), (15, .v (.agg (segL g).toArray))], [⟨42, conL c (.slice ra_c_r_heldV c.r.held.length rc_c_r_heldV)⟩, ⟨51, segL g⟩], [], [slF (.slice ra_c_r_heldV c.r.held.length rc_c_r_heldV) 2 (c.r.held.map pceCells)]⟩ 64 [.agg (segL g).toArray] (some 16) (by kernel_rfl) rfl (by kernel_rfl) rfl (by kernel_rfl) (xc_b fun ww hf => ysSegmentOk_c g ww (by omega)) ?_
      intro _
      refine xl_end [2, 3, 5] ⟨[(2, .p 0 0), (3, .p 1 0), (5, .v (.bool (!(segmentOk g))))], [⟨42, conL c (.slice ra_c_r_heldV c.r.held.length rc_c_r_heldV)⟩, ⟨51, segL g⟩], [], [slF (.slice ra_c_r_heldV c.r.held.length rc_c_r_heldV) 2 (c.r.held.map pceCells)]⟩ (by kernel_rfl) ?_
      refine xw_cond (b := !(segmentOk g)) (by kernel_rfl) (fun h3 => ?_) (fun h3 => ?_)
      · skip
        refine xw_seq ?_
        refine xw_region ?_
        refine xl_end [4] ⟨[(4, .v (.int .i64 1))], [⟨42, conL c (.slice ra_c_r_heldV c.r.held.length rc_c_r_heldV)⟩, ⟨51, segL g⟩], [], [slF (.slice ra_c_r_heldV c.r.held.length rc_c_r_heldV) 2 (c.r.held.map pceCells)]⟩ (by kernel_rfl) ?_
        refine xw_ret ?_
        have hmod : verdict c g = 1 := by first | rfl | (simp [verdict, *]; done) | grind [verdict]
        exact ⟨[.int .i64 1], by kernel_rfl, fun w' hb hf => by rw [hmod]; exact ⟨rfl, hb⟩⟩
      · skip
        refine xw_seq ?_
        refine xw_region ?_
        refine xl_call 1 [2, 3, 20] ⟨[(2, .p 0 0), (3, .p 1 0), (20, .v (.agg (segL g).toArray))], [⟨42, conL c (.slice ra_c_r_heldV c.r.held.length rc_c_r_heldV)⟩, ⟨51, segL g⟩], [], [slF (.slice ra_c_r_heldV c.r.held.length rc_c_r_heldV) 2 (c.r.held.map pceCells)]⟩ 65 [.agg (segL g).toArray, .int .i64 4] (some 21) (by kernel_rfl) rfl (by kernel_rfl) rfl (by kernel_rfl) (xc_b fun ww hf => sHas_c g.src g.dst g.seq g.ack g.flags g.window g.o.mss g.o.scale g.o.sack g.o.stamp g.o.val g.o.echo g.body 4 ww ) ?_
        intro _
        refine xl_run 1 [2, 3, 22] ⟨[(2, .p 0 0), (3, .p 1 0), (22, .v (.bool (hasF g.flags 4)))], [⟨42, conL c (.slice ra_c_r_heldV c.r.held.length rc_c_r_heldV)⟩, ⟨51, segL g⟩], [], [slF (.slice ra_c_r_heldV c.r.held.length rc_c_r_heldV) 2 (c.r.held.map pceCells)]⟩ (by kernel_rfl) ?_
        refine xl_split 22 (b := hasF g.flags 4) (by kernel_rfl) (fun h4 => ?_) (fun h4 => ?_)
        · skip
          refine xl_end [2, 3, 19] ⟨[(2, .p 0 0), (3, .p 1 0), (19, .v (.bool (g.seq == c.r.next)))], [⟨42, conL c (.slice ra_c_r_heldV c.r.held.length rc_c_r_heldV)⟩, ⟨51, segL g⟩], [], [slF (.slice ra_c_r_heldV c.r.held.length rc_c_r_heldV) 2 (c.r.held.map pceCells)]⟩ (by kernel_rfl) ?_
          refine xw_cond (b := g.seq == c.r.next) (by kernel_rfl) (fun h5 => ?_) (fun h5 => ?_)
          · skip
            have h5p := h5; simp only [beq_iff_eq, bne_iff_ne, beq_eq_false_iff_ne, bne_eq_false_iff_eq, ne_eq, toList_lit0] at h5p
            refine xw_seq ?_
            refine xw_region ?_
            refine xl_end [4] ⟨[(4, .v (.int .i64 2))], [⟨42, conL c (.slice ra_c_r_heldV c.r.held.length rc_c_r_heldV)⟩, ⟨51, segL g⟩], [], [slF (.slice ra_c_r_heldV c.r.held.length rc_c_r_heldV) 2 (c.r.held.map pceCells)]⟩ (by kernel_rfl) ?_
            refine xw_ret ?_
            have hmod : verdict c g = 2 := by first | rfl | (simp [verdict, *]; done) | grind [verdict]
            exact ⟨[.int .i64 2], by kernel_rfl, fun w' hb hf => by rw [hmod]; exact ⟨rfl, hb⟩⟩
          · skip
            have h5p := h5; simp only [beq_iff_eq, bne_iff_ne, beq_eq_false_iff_ne, bne_eq_false_iff_eq, ne_eq, toList_lit0] at h5p
            refine xw_seq ?_
            refine xe_region [] (by kernel_rfl) (fun ρ σ => ?_)
            refine xe_take 0 (.v (.agg (segL g).toArray)) ⟨[(31, .v (.agg (segL g).toArray)), (2, .p 0 0), (3, .p 1 0), (19, .v (.bool (g.seq == c.r.next)))], [⟨42, conL c (.slice ra_c_r_heldV c.r.held.length rc_c_r_heldV)⟩, ⟨51, segL g⟩], [], [slF (.slice ra_c_r_heldV c.r.held.length rc_c_r_heldV) 2 (c.r.held.map pceCells)]⟩ rfl (by kernel_rfl) (by kernel_rfl) (by kernel_rfl) (fun _ _ h => h) (by kernel_rfl) (by kernel_rfl) rfl (by kernel_rfl) ?_
            refine xe_all [1] (by kernel_rfl) (by simp) ?_
            refine xs_call 1 65 [.agg (segL g).toArray, .int .i64 4] (some 32) rfl (by kernel_rfl) rfl (by kernel_rfl) (xc_b fun ww hf => sHas_c g.src g.dst g.seq g.ack g.flags g.window g.o.mss g.o.scale g.o.sack g.o.stamp g.o.val g.o.echo g.body 4 ww ) ?_
            intro _
            refine xe_take 2 (.v (.bool (hasF g.flags 4))) ⟨[(33, .v (.bool (hasF g.flags 4))), (32, .v (.bool (hasF g.flags 4))), (31, .v (.agg (segL g).toArray)), (2, .p 0 0), (3, .p 1 0), (19, .v (.bool (g.seq == c.r.next)))], [⟨42, conL c (.slice ra_c_r_heldV c.r.held.length rc_c_r_heldV)⟩, ⟨51, segL g⟩], [], [slF (.slice ra_c_r_heldV c.r.held.length rc_c_r_heldV) 2 (c.r.held.map pceCells)]⟩ rfl (by kernel_rfl) (by kernel_rfl) (by kernel_rfl) (fun _ _ h => h) (by kernel_rfl) (by kernel_rfl) rfl (by kernel_rfl) ?_
            refine xe_split 33 (b := hasF g.flags 4) (by kernel_rfl) (fun h6 => ?_) (fun h6 => ?_)
            · skip
              refine xe_take 3 (.p 1 2) ⟨[(34, .p 1 2), (33, .v (.bool true)), (32, .v (.bool (hasF g.flags 4))), (31, .v (.agg (segL g).toArray)), (2, .p 0 0), (3, .p 1 0), (19, .v (.bool (g.seq == c.r.next)))], [⟨42, conL c (.slice ra_c_r_heldV c.r.held.length rc_c_r_heldV)⟩, ⟨51, segL g⟩], [], [slF (.slice ra_c_r_heldV c.r.held.length rc_c_r_heldV) 2 (c.r.held.map pceCells)]⟩ rfl (by kernel_rfl) (by kernel_rfl) (by kernel_rfl) (fun _ _ h => h) (by kernel_rfl) (by kernel_rfl) rfl (by kernel_rfl) ?_
              refine xe_take 4 (.v (.int .i64 g.seq)) ⟨[(35, .v (.int .i64 g.seq)), (34, .p 1 2), (33, .v (.bool true)), (32, .v (.bool (hasF g.flags 4))), (31, .v (.agg (segL g).toArray)), (2, .p 0 0), (3, .p 1 0), (19, .v (.bool (g.seq == c.r.next)))], [⟨42, conL c (.slice ra_c_r_heldV c.r.held.length rc_c_r_heldV)⟩, ⟨51, segL g⟩], [], [slF (.slice ra_c_r_heldV c.r.held.length rc_c_r_heldV) 2 (c.r.held.map pceCells)]⟩ rfl (by kernel_rfl) (by kernel_rfl) (by kernel_rfl) (fun _ _ h => h) (by kernel_rfl) (by kernel_rfl) rfl (by kernel_rfl) ?_
              refine xe_take 5 (.p 0 10) ⟨[(36, .p 0 10), (35, .v (.int .i64 g.seq)), (34, .p 1 2), (33, .v (.bool true)), (32, .v (.bool (hasF g.flags 4))), (31, .v (.agg (segL g).toArray)), (2, .p 0 0), (3, .p 1 0), (19, .v (.bool (g.seq == c.r.next)))], [⟨42, conL c (.slice ra_c_r_heldV c.r.held.length rc_c_r_heldV)⟩, ⟨51, segL g⟩], [], [slF (.slice ra_c_r_heldV c.r.held.length rc_c_r_heldV) 2 (c.r.held.map pceCells)]⟩ rfl (by kernel_rfl) (by kernel_rfl) (by kernel_rfl) (fun _ _ h => h) (by kernel_rfl) (by kernel_rfl) rfl (by kernel_rfl) ?_
              refine xe_take 6 (.p 0 10) ⟨[(37, .p 0 10), (36, .p 0 10), (35, .v (.int .i64 g.seq)), (34, .p 1 2), (33, .v (.bool true)), (32, .v (.bool (hasF g.flags 4))), (31, .v (.agg (segL g).toArray)), (2, .p 0 0), (3, .p 1 0), (19, .v (.bool (g.seq == c.r.next)))], [⟨42, conL c (.slice ra_c_r_heldV c.r.held.length rc_c_r_heldV)⟩, ⟨51, segL g⟩], [], [slF (.slice ra_c_r_heldV c.r.held.length rc_c_r_heldV) 2 (c.r.held.map pceCells)]⟩ rfl (by kernel_rfl) (by kernel_rfl) (by kernel_rfl) (fun _ _ h => h) (by kernel_rfl) (by kernel_rfl) rfl (by kernel_rfl) ?_
              refine xe_take 7 (.v (.int .i64 c.r.next)) ⟨[(38, .v (.int .i64 c.r.next)), (37, .p 0 10), (36, .p 0 10), (35, .v (.int .i64 g.seq)), (34, .p 1 2), (33, .v (.bool true)), (32, .v (.bool (hasF g.flags 4))), (31, .v (.agg (segL g).toArray)), (2, .p 0 0), (3, .p 1 0), (19, .v (.bool (g.seq == c.r.next)))], [⟨42, conL c (.slice ra_c_r_heldV c.r.held.length rc_c_r_heldV)⟩, ⟨51, segL g⟩], [], [slF (.slice ra_c_r_heldV c.r.held.length rc_c_r_heldV) 2 (c.r.held.map pceCells)]⟩ rfl (by kernel_rfl) (by kernel_rfl) (by kernel_rfl) (fun _ _ h => h) (by kernel_rfl) (by kernel_rfl) rfl (by kernel_rfl) ?_
              refine xe_take 8 (.p 0 10) ⟨[(39, .p 0 10), (38, .v (.int .i64 c.r.next)), (37, .p 0 10), (36, .p 0 10), (35, .v (.int .i64 g.seq)), (34, .p 1 2), (33, .v (.bool true)), (32, .v (.bool (hasF g.flags 4))), (31, .v (.agg (segL g).toArray)), (2, .p 0 0), (3, .p 1 0), (19, .v (.bool (g.seq == c.r.next)))], [⟨42, conL c (.slice ra_c_r_heldV c.r.held.length rc_c_r_heldV)⟩, ⟨51, segL g⟩], [], [slF (.slice ra_c_r_heldV c.r.held.length rc_c_r_heldV) 2 (c.r.held.map pceCells)]⟩ rfl (by kernel_rfl) (by kernel_rfl) (by kernel_rfl) (fun _ _ h => h) (by kernel_rfl) (by kernel_rfl) rfl (by kernel_rfl) ?_
              refine xe_take 9 (.v (.agg (rcvL c.r (.slice ra_c_r_heldV c.r.held.length rc_c_r_heldV)).toArray)) ⟨[(40, .v (.agg (rcvL c.r (.slice ra_c_r_heldV c.r.held.length rc_c_r_heldV)).toArray)), (39, .p 0 10), (38, .v (.int .i64 c.r.next)), (37, .p 0 10), (36, .p 0 10), (35, .v (.int .i64 g.seq)), (34, .p 1 2), (33, .v (.bool true)), (32, .v (.bool (hasF g.flags 4))), (31, .v (.agg (segL g).toArray)), (2, .p 0 0), (3, .p 1 0), (19, .v (.bool (g.seq == c.r.next)))], [⟨42, conL c (.slice ra_c_r_heldV c.r.held.length rc_c_r_heldV)⟩, ⟨51, segL g⟩], [], [slF (.slice ra_c_r_heldV c.r.held.length rc_c_r_heldV) 2 (c.r.held.map pceCells)]⟩ rfl (by kernel_rfl) (by kernel_rfl) (by kernel_rfl) (fun _ _ h => h) (by kernel_rfl) (by kernel_rfl) rfl (by kernel_rfl) ?_
              refine xe_all [10] (by kernel_rfl) (by simp) ?_
              refine xs_call 10 67 [.agg (rcvL c.r (.slice ra_c_r_heldV c.r.held.length rc_c_r_heldV)).toArray] (some 41) rfl (by kernel_rfl) rfl (by kernel_rfl) (xc_b fun ww hf => sWindowOf_c c.r.next c.r.data c.r.held (.slice ra_c_r_heldV c.r.held.length rc_c_r_heldV) c.r.fin c.r.done ww (by omega)) ?_
              intro _
              refine xe_all [11] (by kernel_rfl) (by simp) ?_
              refine xs_call 11 66 [.int .i64 g.seq, .int .i64 c.r.next, .int .i64 (windowOf c.r)] (some 42) rfl (by kernel_rfl) rfl (by kernel_rfl) (xc_s fun ww hf => sInWindow_c g.seq c.r.next (windowOf c.r) ww ) ?_
              intro _
              refine xe_take 12 (.v (.bool (inWindow g.seq c.r.next (windowOf c.r)))) ⟨[(43, .v (.bool (inWindow g.seq c.r.next (windowOf c.r)))), (42, .v (.bool (inWindow g.seq c.r.next (windowOf c.r)))), (41, .v (.int .i64 (windowOf c.r))), (40, .v (.agg (rcvL c.r (.slice ra_c_r_heldV c.r.held.length rc_c_r_heldV)).toArray)), (39, .p 0 10), (38, .v (.int .i64 c.r.next)), (37, .p 0 10), (36, .p 0 10), (35, .v (.int .i64 g.seq)), (34, .p 1 2), (33, .v (.bool true)), (32, .v (.bool (hasF g.flags 4))), (31, .v (.agg (segL g).toArray)), (2, .p 0 0), (3, .p 1 0), (19, .v (.bool (g.seq == c.r.next)))], [⟨42, conL c (.slice ra_c_r_heldV c.r.held.length rc_c_r_heldV)⟩, ⟨51, segL g⟩], [], [slF (.slice ra_c_r_heldV c.r.held.length rc_c_r_heldV) 2 (c.r.held.map pceCells)]⟩ rfl (by kernel_rfl) (by kernel_rfl) (by kernel_rfl) (fun _ _ h => h) (by kernel_rfl) (by kernel_rfl) rfl (by kernel_rfl) ?_
              refine xe_take 13 (.v (.bool (inWindow g.seq c.r.next (windowOf c.r)))) ⟨[(30, .v (.bool (inWindow g.seq c.r.next (windowOf c.r)))), (43, .v (.bool (inWindow g.seq c.r.next (windowOf c.r)))), (42, .v (.bool (inWindow g.seq c.r.next (windowOf c.r)))), (41, .v (.int .i64 (windowOf c.r))), (40, .v (.agg (rcvL c.r (.slice ra_c_r_heldV c.r.held.length rc_c_r_heldV)).toArray)), (39, .p 0 10), (38, .v (.int .i64 c.r.next)), (37, .p 0 10), (36, .p 0 10), (35, .v (.int .i64 g.seq)), (34, .p 1 2), (33, .v (.bool true)), (32, .v (.bool (hasF g.flags 4))), (31, .v (.agg (segL g).toArray)), (2, .p 0 0), (3, .p 1 0), (19, .v (.bool (g.seq == c.r.next)))], [⟨42, conL c (.slice ra_c_r_heldV c.r.held.length rc_c_r_heldV)⟩, ⟨51, segL g⟩], [], [slF (.slice ra_c_r_heldV c.r.held.length rc_c_r_heldV) 2 (c.r.held.map pceCells)]⟩ rfl (by kernel_rfl) (by kernel_rfl) (by kernel_rfl) (fun _ _ h => h) (by kernel_rfl) (by kernel_rfl) rfl (by kernel_rfl) ?_
              refine xe_done (by kernel_rfl) ?_
              refine xw_cond (b := inWindow g.seq c.r.next (windowOf c.r)) (by kernel_rfl) (fun h7 => ?_) (fun h7 => ?_)
              · skip
                refine xw_seq ?_
                refine xw_region ?_
                refine xl_end [4] ⟨[(4, .v (.int .i64 3))], [⟨42, conL c (.slice ra_c_r_heldV c.r.held.length rc_c_r_heldV)⟩, ⟨51, segL g⟩], [], [slF (.slice ra_c_r_heldV c.r.held.length rc_c_r_heldV) 2 (c.r.held.map pceCells)]⟩ (by kernel_rfl) ?_
                refine xw_ret ?_
                have hmod : verdict c g = 3 := by first | rfl | (simp [verdict, *]; done) | grind [verdict]
                exact ⟨[.int .i64 3], by kernel_rfl, fun w' hb hf => by rw [hmod]; exact ⟨rfl, hb⟩⟩
              · skip
                refine xw_seq ?_
                refine xw_region ?_
                refine xl_call 1 [2, 3, 45] ⟨[(2, .p 0 0), (3, .p 1 0), (45, .v (.agg (segL g).toArray))], [⟨42, conL c (.slice ra_c_r_heldV c.r.held.length rc_c_r_heldV)⟩, ⟨51, segL g⟩], [], [slF (.slice ra_c_r_heldV c.r.held.length rc_c_r_heldV) 2 (c.r.held.map pceCells)]⟩ 65 [.agg (segL g).toArray, .int .i64 4] (some 46) (by kernel_rfl) rfl (by kernel_rfl) rfl (by kernel_rfl) (xc_b fun ww hf => sHas_c g.src g.dst g.seq g.ack g.flags g.window g.o.mss g.o.scale g.o.sack g.o.stamp g.o.val g.o.echo g.body 4 ww ) ?_
                intro _
                refine xl_end [2, 3, 44] ⟨[(2, .p 0 0), (3, .p 1 0), (44, .v (.bool (hasF g.flags 4)))], [⟨42, conL c (.slice ra_c_r_heldV c.r.held.length rc_c_r_heldV)⟩, ⟨51, segL g⟩], [], [slF (.slice ra_c_r_heldV c.r.held.length rc_c_r_heldV) 2 (c.r.held.map pceCells)]⟩ (by kernel_rfl) ?_
                refine xw_cond (b := hasF g.flags 4) (by kernel_rfl) (fun h8 => ?_) (fun h8 => ?_)
                · skip
                  refine xw_seq ?_
                  refine xw_region ?_
                  refine xl_end [4] ⟨[(4, .v (.int .i64 1))], [⟨42, conL c (.slice ra_c_r_heldV c.r.held.length rc_c_r_heldV)⟩, ⟨51, segL g⟩], [], [slF (.slice ra_c_r_heldV c.r.held.length rc_c_r_heldV) 2 (c.r.held.map pceCells)]⟩ (by kernel_rfl) ?_
                  refine xw_ret ?_
                  have hmod : verdict c g = 1 := by first | rfl | (simp [verdict, *]; done) | grind [verdict]
                  exact ⟨[.int .i64 1], by kernel_rfl, fun w' hb hf => by rw [hmod]; exact ⟨rfl, hb⟩⟩
                · skip
                  refine xw_seq ?_
                  refine xw_region ?_
                  refine xl_call 1 [2, 3, 48] ⟨[(2, .p 0 0), (3, .p 1 0), (48, .v (.agg (segL g).toArray))], [⟨42, conL c (.slice ra_c_r_heldV c.r.held.length rc_c_r_heldV)⟩, ⟨51, segL g⟩], [], [slF (.slice ra_c_r_heldV c.r.held.length rc_c_r_heldV) 2 (c.r.held.map pceCells)]⟩ 65 [.agg (segL g).toArray, .int .i64 2] (some 49) (by kernel_rfl) rfl (by kernel_rfl) rfl (by kernel_rfl) (xc_b fun ww hf => sHas_c g.src g.dst g.seq g.ack g.flags g.window g.o.mss g.o.scale g.o.sack g.o.stamp g.o.val g.o.echo g.body 2 ww ) ?_
                  intro _
                  refine xl_end [2, 3, 47] ⟨[(2, .p 0 0), (3, .p 1 0), (47, .v (.bool (hasF g.flags 2)))], [⟨42, conL c (.slice ra_c_r_heldV c.r.held.length rc_c_r_heldV)⟩, ⟨51, segL g⟩], [], [slF (.slice ra_c_r_heldV c.r.held.length rc_c_r_heldV) 2 (c.r.held.map pceCells)]⟩ (by kernel_rfl) ?_
                  refine xw_cond (b := hasF g.flags 2) (by kernel_rfl) (fun h9 => ?_) (fun h9 => ?_)
                  · skip
                    refine xw_seq ?_
                    refine xw_region ?_
                    refine xl_end [4] ⟨[(4, .v (.int .i64 3))], [⟨42, conL c (.slice ra_c_r_heldV c.r.held.length rc_c_r_heldV)⟩, ⟨51, segL g⟩], [], [slF (.slice ra_c_r_heldV c.r.held.length rc_c_r_heldV) 2 (c.r.held.map pceCells)]⟩ (by kernel_rfl) ?_
                    refine xw_ret ?_
                    have hmod : verdict c g = 3 := by first | rfl | (simp [verdict, *]; done) | grind [verdict]
                    exact ⟨[.int .i64 3], by kernel_rfl, fun w' hb hf => by rw [hmod]; exact ⟨rfl, hb⟩⟩
                  · skip
                    refine xw_seq ?_
                    refine xw_region ?_
                    refine xl_call 2 [2, 3, 51, 52] ⟨[(2, .p 0 0), (3, .p 1 0), (51, .v (.agg (conL c (.slice ra_c_r_heldV c.r.held.length rc_c_r_heldV)).toArray)), (52, .v (.agg (segL g).toArray))], [⟨42, conL c (.slice ra_c_r_heldV c.r.held.length rc_c_r_heldV)⟩, ⟨51, segL g⟩], [], [slF (.slice ra_c_r_heldV c.r.held.length rc_c_r_heldV) 2 (c.r.held.map pceCells)]⟩ 68 [.agg (conL c (.slice ra_c_r_heldV c.r.held.length rc_c_r_heldV)).toArray, .agg (segL g).toArray] (some 53) (by kernel_rfl) rfl (by kernel_rfl) rfl (by kernel_rfl) (xc_b fun ww hf => sAcceptable_c c.t.ip c.t.port c.t.my c.state c.s.una c.s.data c.s.sent c.s.fin c.s.finSent c.s.done c.r.next c.r.data c.r.held (.slice ra_c_r_heldV c.r.held.length rc_c_r_heldV) c.r.fin c.r.done c.window c.most c.o.mss c.o.scale c.o.sack c.o.stamp c.o.val c.o.echo c.timer c.tries g.src g.dst g.seq g.ack g.flags g.window g.o.mss g.o.scale g.o.sack g.o.stamp g.o.val g.o.echo g.body ww (by omega) (by omega)) ?_
                    intro _
                    refine xl_end [2, 3, 50] ⟨[(2, .p 0 0), (3, .p 1 0), (50, .v (.bool (!(acceptable c g))))], [⟨42, conL c (.slice ra_c_r_heldV c.r.held.length rc_c_r_heldV)⟩, ⟨51, segL g⟩], [], [slF (.slice ra_c_r_heldV c.r.held.length rc_c_r_heldV) 2 (c.r.held.map pceCells)]⟩ (by kernel_rfl) ?_
                    refine xw_cond (b := !(acceptable c g)) (by kernel_rfl) (fun h10 => ?_) (fun h10 => ?_)
                    · skip
                      refine xw_seq ?_
                      refine xw_region ?_
                      refine xl_end [4] ⟨[(4, .v (.int .i64 4))], [⟨42, conL c (.slice ra_c_r_heldV c.r.held.length rc_c_r_heldV)⟩, ⟨51, segL g⟩], [], [slF (.slice ra_c_r_heldV c.r.held.length rc_c_r_heldV) 2 (c.r.held.map pceCells)]⟩ (by kernel_rfl) ?_
                      refine xw_ret ?_
                      have hmod : verdict c g = 4 := by first | rfl | (simp [verdict, *]; done) | grind [verdict]
                      exact ⟨[.int .i64 4], by kernel_rfl, fun w' hb hf => by rw [hmod]; exact ⟨rfl, hb⟩⟩
                    · skip
                      refine xw_seq ?_
                      refine xw_region ?_
                      refine xl_call 1 [2, 3, 56] ⟨[(2, .p 0 0), (3, .p 1 0), (56, .v (.agg (segL g).toArray))], [⟨42, conL c (.slice ra_c_r_heldV c.r.held.length rc_c_r_heldV)⟩, ⟨51, segL g⟩], [], [slF (.slice ra_c_r_heldV c.r.held.length rc_c_r_heldV) 2 (c.r.held.map pceCells)]⟩ 65 [.agg (segL g).toArray, .int .i64 16] (some 57) (by kernel_rfl) rfl (by kernel_rfl) rfl (by kernel_rfl) (xc_b fun ww hf => sHas_c g.src g.dst g.seq g.ack g.flags g.window g.o.mss g.o.scale g.o.sack g.o.stamp g.o.val g.o.echo g.body 16 ww ) ?_
                      intro _
                      refine xl_end [2, 3, 55] ⟨[(2, .p 0 0), (3, .p 1 0), (55, .v (.bool (!(hasF g.flags 16))))], [⟨42, conL c (.slice ra_c_r_heldV c.r.held.length rc_c_r_heldV)⟩, ⟨51, segL g⟩], [], [slF (.slice ra_c_r_heldV c.r.held.length rc_c_r_heldV) 2 (c.r.held.map pceCells)]⟩ (by kernel_rfl) ?_
                      refine xw_cond (b := !(hasF g.flags 16)) (by kernel_rfl) (fun h11 => ?_) (fun h11 => ?_)
                      · skip
                        refine xw_seq ?_
                        refine xw_region ?_
                        refine xl_end [4] ⟨[(4, .v (.int .i64 1))], [⟨42, conL c (.slice ra_c_r_heldV c.r.held.length rc_c_r_heldV)⟩, ⟨51, segL g⟩], [], [slF (.slice ra_c_r_heldV c.r.held.length rc_c_r_heldV) 2 (c.r.held.map pceCells)]⟩ (by kernel_rfl) ?_
                        refine xw_ret ?_
                        have hmod : verdict c g = 1 := by first | rfl | (simp [verdict, *]; done) | grind [verdict]
                        exact ⟨[.int .i64 1], by kernel_rfl, fun w' hb hf => by rw [hmod]; exact ⟨rfl, hb⟩⟩
                      · skip
                        refine xw_seq ?_
                        refine xw_region ?_
                        refine xl_call 3 [60, 62] ⟨[(60, .v (.agg (conL c (.slice ra_c_r_heldV c.r.held.length rc_c_r_heldV)).toArray)), (62, .v (.int .i64 g.ack))], [⟨42, conL c (.slice ra_c_r_heldV c.r.held.length rc_c_r_heldV)⟩, ⟨51, segL g⟩], [], [slF (.slice ra_c_r_heldV c.r.held.length rc_c_r_heldV) 2 (c.r.held.map pceCells)]⟩ 69 [.agg (conL c (.slice ra_c_r_heldV c.r.held.length rc_c_r_heldV)).toArray, .int .i64 g.ack] (some 63) (by kernel_rfl) rfl (by kernel_rfl) rfl (by kernel_rfl) (xc_b fun ww hf => sAckFits_c c.t.ip c.t.port c.t.my c.state c.s.una c.s.data c.s.sent c.s.fin c.s.finSent c.s.done c.r.next c.r.data c.r.held (.slice ra_c_r_heldV c.r.held.length rc_c_r_heldV) c.r.fin c.r.done c.window c.most c.o.mss c.o.scale c.o.sack c.o.stamp c.o.val c.o.echo c.timer c.tries g.ack ww ) ?_
                        intro _
                        refine xl_end [59] ⟨[(59, .v (.bool (!(ackFits c g.ack))))], [⟨42, conL c (.slice ra_c_r_heldV c.r.held.length rc_c_r_heldV)⟩, ⟨51, segL g⟩], [], [slF (.slice ra_c_r_heldV c.r.held.length rc_c_r_heldV) 2 (c.r.held.map pceCells)]⟩ (by kernel_rfl) ?_
                        refine xw_cond (b := !(ackFits c g.ack)) (by kernel_rfl) (fun h12 => ?_) (fun h12 => ?_)
                        · skip
                          refine xw_seq ?_
                          refine xw_region ?_
                          refine xl_end [4] ⟨[(4, .v (.int .i64 3))], [⟨42, conL c (.slice ra_c_r_heldV c.r.held.length rc_c_r_heldV)⟩, ⟨51, segL g⟩], [], [slF (.slice ra_c_r_heldV c.r.held.length rc_c_r_heldV) 2 (c.r.held.map pceCells)]⟩ (by kernel_rfl) ?_
                          refine xw_ret ?_
                          have hmod : verdict c g = 3 := by first | rfl | (simp [verdict, *]; done) | grind [verdict]
                          exact ⟨[.int .i64 3], by kernel_rfl, fun w' hb hf => by rw [hmod]; exact ⟨rfl, hb⟩⟩
                        · skip
                          refine xw_skip ?_
                          refine xw_seq ?_
                          refine xw_region ?_
                          refine xl_end [4] ⟨[(4, .v (.int .i64 5))], [⟨42, conL c (.slice ra_c_r_heldV c.r.held.length rc_c_r_heldV)⟩, ⟨51, segL g⟩], [], [slF (.slice ra_c_r_heldV c.r.held.length rc_c_r_heldV) 2 (c.r.held.map pceCells)]⟩ (by kernel_rfl) ?_
                          refine xw_ret ?_
                          have hmod : verdict c g = 5 := by first | rfl | (simp [verdict, *]; done) | grind [verdict]
                          exact ⟨[.int .i64 5], by kernel_rfl, fun w' hb hf => by rw [hmod]; exact ⟨rfl, hb⟩⟩
            · skip
              refine xe_skip 3 ⟨[(34, .v undef), (33, .v (.bool false)), (32, .v (.bool (hasF g.flags 4))), (31, .v (.agg (segL g).toArray)), (2, .p 0 0), (3, .p 1 0), (19, .v (.bool (g.seq == c.r.next)))], [⟨42, conL c (.slice ra_c_r_heldV c.r.held.length rc_c_r_heldV)⟩, ⟨51, segL g⟩], [], [slF (.slice ra_c_r_heldV c.r.held.length rc_c_r_heldV) 2 (c.r.held.map pceCells)]⟩ rfl (by kernel_rfl) (by kernel_rfl) (by kernel_rfl) (fun _ _ h => h) (by kernel_rfl) rfl (by kernel_rfl) ?_
              refine xe_skip 4 ⟨[(35, .v undef), (34, .v undef), (33, .v (.bool false)), (32, .v (.bool (hasF g.flags 4))), (31, .v (.agg (segL g).toArray)), (2, .p 0 0), (3, .p 1 0), (19, .v (.bool (g.seq == c.r.next)))], [⟨42, conL c (.slice ra_c_r_heldV c.r.held.length rc_c_r_heldV)⟩, ⟨51, segL g⟩], [], [slF (.slice ra_c_r_heldV c.r.held.length rc_c_r_heldV) 2 (c.r.held.map pceCells)]⟩ rfl (by kernel_rfl) (by kernel_rfl) (by kernel_rfl) (fun _ _ h => h) (by kernel_rfl) rfl (by kernel_rfl) ?_
              refine xe_skip 5 ⟨[(36, .v undef), (35, .v undef), (34, .v undef), (33, .v (.bool false)), (32, .v (.bool (hasF g.flags 4))), (31, .v (.agg (segL g).toArray)), (2, .p 0 0), (3, .p 1 0), (19, .v (.bool (g.seq == c.r.next)))], [⟨42, conL c (.slice ra_c_r_heldV c.r.held.length rc_c_r_heldV)⟩, ⟨51, segL g⟩], [], [slF (.slice ra_c_r_heldV c.r.held.length rc_c_r_heldV) 2 (c.r.held.map pceCells)]⟩ rfl (by kernel_rfl) (by kernel_rfl) (by kernel_rfl) (fun _ _ h => h) (by kernel_rfl) rfl (by kernel_rfl) ?_
              refine xe_skip 6 ⟨[(37, .v undef), (36, .v undef), (35, .v undef), (34, .v undef), (33, .v (.bool false)), (32, .v (.bool (hasF g.flags 4))), (31, .v (.agg (segL g).toArray)), (2, .p 0 0), (3, .p 1 0), (19, .v (.bool (g.seq == c.r.next)))], [⟨42, conL c (.slice ra_c_r_heldV c.r.held.length rc_c_r_heldV)⟩, ⟨51, segL g⟩], [], [slF (.slice ra_c_r_heldV c.r.held.length rc_c_r_heldV) 2 (c.r.held.map pceCells)]⟩ rfl (by kernel_rfl) (by kernel_rfl) (by kernel_rfl) (fun _ _ h => h) (by kernel_rfl) rfl (by kernel_rfl) ?_
              refine xe_skip 7 ⟨[(38, .v undef), (37, .v undef), (36, .v undef), (35, .v undef), (34, .v undef), (33, .v (.bool false)), (32, .v (.bool (hasF g.flags 4))), (31, .v (.agg (segL g).toArray)), (2, .p 0 0), (3, .p 1 0), (19, .v (.bool (g.seq == c.r.next)))], [⟨42, conL c (.slice ra_c_r_heldV c.r.held.length rc_c_r_heldV)⟩, ⟨51, segL g⟩], [], [slF (.slice ra_c_r_heldV c.r.held.length rc_c_r_heldV) 2 (c.r.held.map pceCells)]⟩ rfl (by kernel_rfl) (by kernel_rfl) (by kernel_rfl) (fun _ _ h => h) (by kernel_rfl) rfl (by kernel_rfl) ?_
              refine xe_skip 8 ⟨[(39, .v undef), (38, .v undef), (37, .v undef), (36, .v undef), (35, .v undef), (34, .v undef), (33, .v (.bool false)), (32, .v (.bool (hasF g.flags 4))), (31, .v (.agg (segL g).toArray)), (2, .p 0 0), (3, .p 1 0), (19, .v (.bool (g.seq == c.r.next)))], [⟨42, conL c (.slice ra_c_r_heldV c.r.held.length rc_c_r_heldV)⟩, ⟨51, segL g⟩], [], [slF (.slice ra_c_r_heldV c.r.held.length rc_c_r_heldV) 2 (c.r.held.map pceCells)]⟩ rfl (by kernel_rfl) (by kernel_rfl) (by kernel_rfl) (fun _ _ h => h) (by kernel_rfl) rfl (by kernel_rfl) ?_
              refine xe_skip 9 ⟨[(40, .v undef), (39, .v undef), (38, .v undef), (37, .v undef), (36, .v undef), (35, .v undef), (34, .v undef), (33, .v (.bool false)), (32, .v (.bool (hasF g.flags 4))), (31, .v (.agg (segL g).toArray)), (2, .p 0 0), (3, .p 1 0), (19, .v (.bool (g.seq == c.r.next)))], [⟨42, conL c (.slice ra_c_r_heldV c.r.held.length rc_c_r_heldV)⟩, ⟨51, segL g⟩], [], [slF (.slice ra_c_r_heldV c.r.held.length rc_c_r_heldV) 2 (c.r.held.map pceCells)]⟩ rfl (by kernel_rfl) (by kernel_rfl) (by kernel_rfl) (fun _ _ h => h) (by kernel_rfl) rfl (by kernel_rfl) ?_
              refine xe_skip 10 ⟨[(41, .v undef), (40, .v undef), (39, .v undef), (38, .v undef), (37, .v undef), (36, .v undef), (35, .v undef), (34, .v undef), (33, .v (.bool false)), (32, .v (.bool (hasF g.flags 4))), (31, .v (.agg (segL g).toArray)), (2, .p 0 0), (3, .p 1 0), (19, .v (.bool (g.seq == c.r.next)))], [⟨42, conL c (.slice ra_c_r_heldV c.r.held.length rc_c_r_heldV)⟩, ⟨51, segL g⟩], [], [slF (.slice ra_c_r_heldV c.r.held.length rc_c_r_heldV) 2 (c.r.held.map pceCells)]⟩ rfl (by kernel_rfl) (by kernel_rfl) (by kernel_rfl) (fun _ _ h => h) (by kernel_rfl) rfl (by kernel_rfl) ?_
              refine xe_skip 11 ⟨[(42, .v undef), (41, .v undef), (40, .v undef), (39, .v undef), (38, .v undef), (37, .v undef), (36, .v undef), (35, .v undef), (34, .v undef), (33, .v (.bool false)), (32, .v (.bool (hasF g.flags 4))), (31, .v (.agg (segL g).toArray)), (2, .p 0 0), (3, .p 1 0), (19, .v (.bool (g.seq == c.r.next)))], [⟨42, conL c (.slice ra_c_r_heldV c.r.held.length rc_c_r_heldV)⟩, ⟨51, segL g⟩], [], [slF (.slice ra_c_r_heldV c.r.held.length rc_c_r_heldV) 2 (c.r.held.map pceCells)]⟩ rfl (by kernel_rfl) (by kernel_rfl) (by kernel_rfl) (fun _ _ h => h) (by kernel_rfl) rfl (by kernel_rfl) ?_
              refine xe_take 12 (.v (.bool false)) ⟨[(43, .v (.bool false)), (42, .v undef), (41, .v undef), (40, .v undef), (39, .v undef), (38, .v undef), (37, .v undef), (36, .v undef), (35, .v undef), (34, .v undef), (33, .v (.bool false)), (32, .v (.bool (hasF g.flags 4))), (31, .v (.agg (segL g).toArray)), (2, .p 0 0), (3, .p 1 0), (19, .v (.bool (g.seq == c.r.next)))], [⟨42, conL c (.slice ra_c_r_heldV c.r.held.length rc_c_r_heldV)⟩, ⟨51, segL g⟩], [], [slF (.slice ra_c_r_heldV c.r.held.length rc_c_r_heldV) 2 (c.r.held.map pceCells)]⟩ rfl (by kernel_rfl) (by kernel_rfl) (by kernel_rfl) (fun _ _ h => h) (by kernel_rfl) (by kernel_rfl) rfl (by kernel_rfl) ?_
              refine xe_take 13 (.v (.bool false)) ⟨[(30, .v (.bool false)), (43, .v (.bool false)), (42, .v undef), (41, .v undef), (40, .v undef), (39, .v undef), (38, .v undef), (37, .v undef), (36, .v undef), (35, .v undef), (34, .v undef), (33, .v (.bool false)), (32, .v (.bool (hasF g.flags 4))), (31, .v (.agg (segL g).toArray)), (2, .p 0 0), (3, .p 1 0), (19, .v (.bool (g.seq == c.r.next)))], [⟨42, conL c (.slice ra_c_r_heldV c.r.held.length rc_c_r_heldV)⟩, ⟨51, segL g⟩], [], [slF (.slice ra_c_r_heldV c.r.held.length rc_c_r_heldV) 2 (c.r.held.map pceCells)]⟩ rfl (by kernel_rfl) (by kernel_rfl) (by kernel_rfl) (fun _ _ h => h) (by kernel_rfl) (by kernel_rfl) rfl (by kernel_rfl) ?_
              refine xe_done (by kernel_rfl) ?_
              refine xw_false (by kernel_rfl) ?_
              refine xw_seq ?_
              refine xw_region ?_
              refine xl_call 1 [2, 3, 45] ⟨[(2, .p 0 0), (3, .p 1 0), (45, .v (.agg (segL g).toArray))], [⟨42, conL c (.slice ra_c_r_heldV c.r.held.length rc_c_r_heldV)⟩, ⟨51, segL g⟩], [], [slF (.slice ra_c_r_heldV c.r.held.length rc_c_r_heldV) 2 (c.r.held.map pceCells)]⟩ 65 [.agg (segL g).toArray, .int .i64 4] (some 46) (by kernel_rfl) rfl (by kernel_rfl) rfl (by kernel_rfl) (xc_b fun ww hf => sHas_c g.src g.dst g.seq g.ack g.flags g.window g.o.mss g.o.scale g.o.sack g.o.stamp g.o.val g.o.echo g.body 4 ww ) ?_
              intro _
              refine xl_end [2, 3, 44] ⟨[(2, .p 0 0), (3, .p 1 0), (44, .v (.bool (hasF g.flags 4)))], [⟨42, conL c (.slice ra_c_r_heldV c.r.held.length rc_c_r_heldV)⟩, ⟨51, segL g⟩], [], [slF (.slice ra_c_r_heldV c.r.held.length rc_c_r_heldV) 2 (c.r.held.map pceCells)]⟩ (by kernel_rfl) ?_
              refine xw_cond (b := hasF g.flags 4) (by kernel_rfl) (fun h13 => ?_) (fun h13 => ?_)
              · skip
                refine xw_seq ?_
                refine xw_region ?_
                refine xl_end [4] ⟨[(4, .v (.int .i64 1))], [⟨42, conL c (.slice ra_c_r_heldV c.r.held.length rc_c_r_heldV)⟩, ⟨51, segL g⟩], [], [slF (.slice ra_c_r_heldV c.r.held.length rc_c_r_heldV) 2 (c.r.held.map pceCells)]⟩ (by kernel_rfl) ?_
                refine xw_ret ?_
                have hmod : verdict c g = 1 := by first | rfl | (simp [verdict, *]; done) | grind [verdict]
                exact ⟨[.int .i64 1], by kernel_rfl, fun w' hb hf => by rw [hmod]; exact ⟨rfl, hb⟩⟩
              · skip
                refine xw_seq ?_
                refine xw_region ?_
                refine xl_call 1 [2, 3, 48] ⟨[(2, .p 0 0), (3, .p 1 0), (48, .v (.agg (segL g).toArray))], [⟨42, conL c (.slice ra_c_r_heldV c.r.held.length rc_c_r_heldV)⟩, ⟨51, segL g⟩], [], [slF (.slice ra_c_r_heldV c.r.held.length rc_c_r_heldV) 2 (c.r.held.map pceCells)]⟩ 65 [.agg (segL g).toArray, .int .i64 2] (some 49) (by kernel_rfl) rfl (by kernel_rfl) rfl (by kernel_rfl) (xc_b fun ww hf => sHas_c g.src g.dst g.seq g.ack g.flags g.window g.o.mss g.o.scale g.o.sack g.o.stamp g.o.val g.o.echo g.body 2 ww ) ?_
                intro _
                refine xl_end [2, 3, 47] ⟨[(2, .p 0 0), (3, .p 1 0), (47, .v (.bool (hasF g.flags 2)))], [⟨42, conL c (.slice ra_c_r_heldV c.r.held.length rc_c_r_heldV)⟩, ⟨51, segL g⟩], [], [slF (.slice ra_c_r_heldV c.r.held.length rc_c_r_heldV) 2 (c.r.held.map pceCells)]⟩ (by kernel_rfl) ?_
                refine xw_cond (b := hasF g.flags 2) (by kernel_rfl) (fun h14 => ?_) (fun h14 => ?_)
                · skip
                  refine xw_seq ?_
                  refine xw_region ?_
                  refine xl_end [4] ⟨[(4, .v (.int .i64 3))], [⟨42, conL c (.slice ra_c_r_heldV c.r.held.length rc_c_r_heldV)⟩, ⟨51, segL g⟩], [], [slF (.slice ra_c_r_heldV c.r.held.length rc_c_r_heldV) 2 (c.r.held.map pceCells)]⟩ (by kernel_rfl) ?_
                  refine xw_ret ?_
                  have hmod : verdict c g = 3 := by first | rfl | (simp [verdict, *]; done) | grind [verdict]
                  exact ⟨[.int .i64 3], by kernel_rfl, fun w' hb hf => by rw [hmod]; exact ⟨rfl, hb⟩⟩
                · skip
                  refine xw_seq ?_
                  refine xw_region ?_
                  refine xl_call 2 [2, 3, 51, 52] ⟨[(2, .p 0 0), (3, .p 1 0), (51, .v (.agg (conL c (.slice ra_c_r_heldV c.r.held.length rc_c_r_heldV)).toArray)), (52, .v (.agg (segL g).toArray))], [⟨42, conL c (.slice ra_c_r_heldV c.r.held.length rc_c_r_heldV)⟩, ⟨51, segL g⟩], [], [slF (.slice ra_c_r_heldV c.r.held.length rc_c_r_heldV) 2 (c.r.held.map pceCells)]⟩ 68 [.agg (conL c (.slice ra_c_r_heldV c.r.held.length rc_c_r_heldV)).toArray, .agg (segL g).toArray] (some 53) (by kernel_rfl) rfl (by kernel_rfl) rfl (by kernel_rfl) (xc_b fun ww hf => sAcceptable_c c.t.ip c.t.port c.t.my c.state c.s.una c.s.data c.s.sent c.s.fin c.s.finSent c.s.done c.r.next c.r.data c.r.held (.slice ra_c_r_heldV c.r.held.length rc_c_r_heldV) c.r.fin c.r.done c.window c.most c.o.mss c.o.scale c.o.sack c.o.stamp c.o.val c.o.echo c.timer c.tries g.src g.dst g.seq g.ack g.flags g.window g.o.mss g.o.scale g.o.sack g.o.stamp g.o.val g.o.echo g.body ww (by omega) (by omega)) ?_
                  intro _
                  refine xl_end [2, 3, 50] ⟨[(2, .p 0 0), (3, .p 1 0), (50, .v (.bool (!(acceptable c g))))], [⟨42, conL c (.slice ra_c_r_heldV c.r.held.length rc_c_r_heldV)⟩, ⟨51, segL g⟩], [], [slF (.slice ra_c_r_heldV c.r.held.length rc_c_r_heldV) 2 (c.r.held.map pceCells)]⟩ (by kernel_rfl) ?_
                  refine xw_cond (b := !(acceptable c g)) (by kernel_rfl) (fun h15 => ?_) (fun h15 => ?_)
                  · skip
                    refine xw_seq ?_
                    refine xw_region ?_
                    refine xl_end [4] ⟨[(4, .v (.int .i64 4))], [⟨42, conL c (.slice ra_c_r_heldV c.r.held.length rc_c_r_heldV)⟩, ⟨51, segL g⟩], [], [slF (.slice ra_c_r_heldV c.r.held.length rc_c_r_heldV) 2 (c.r.held.map pceCells)]⟩ (by kernel_rfl) ?_
                    refine xw_ret ?_
                    have hmod : verdict c g = 4 := by first | rfl | (simp [verdict, *]; done) | grind [verdict]
                    exact ⟨[.int .i64 4], by kernel_rfl, fun w' hb hf => by rw [hmod]; exact ⟨rfl, hb⟩⟩
                  · skip
                    refine xw_seq ?_
                    refine xw_region ?_
                    refine xl_call 1 [2, 3, 56] ⟨[(2, .p 0 0), (3, .p 1 0), (56, .v (.agg (segL g).toArray))], [⟨42, conL c (.slice ra_c_r_heldV c.r.held.length rc_c_r_heldV)⟩, ⟨51, segL g⟩], [], [slF (.slice ra_c_r_heldV c.r.held.length rc_c_r_heldV) 2 (c.r.held.map pceCells)]⟩ 65 [.agg (segL g).toArray, .int .i64 16] (some 57) (by kernel_rfl) rfl (by kernel_rfl) rfl (by kernel_rfl) (xc_b fun ww hf => sHas_c g.src g.dst g.seq g.ack g.flags g.window g.o.mss g.o.scale g.o.sack g.o.stamp g.o.val g.o.echo g.body 16 ww ) ?_
                    intro _
                    refine xl_end [2, 3, 55] ⟨[(2, .p 0 0), (3, .p 1 0), (55, .v (.bool (!(hasF g.flags 16))))], [⟨42, conL c (.slice ra_c_r_heldV c.r.held.length rc_c_r_heldV)⟩, ⟨51, segL g⟩], [], [slF (.slice ra_c_r_heldV c.r.held.length rc_c_r_heldV) 2 (c.r.held.map pceCells)]⟩ (by kernel_rfl) ?_
                    refine xw_cond (b := !(hasF g.flags 16)) (by kernel_rfl) (fun h16 => ?_) (fun h16 => ?_)
                    · skip
                      refine xw_seq ?_
                      refine xw_region ?_
                      refine xl_end [4] ⟨[(4, .v (.int .i64 1))], [⟨42, conL c (.slice ra_c_r_heldV c.r.held.length rc_c_r_heldV)⟩, ⟨51, segL g⟩], [], [slF (.slice ra_c_r_heldV c.r.held.length rc_c_r_heldV) 2 (c.r.held.map pceCells)]⟩ (by kernel_rfl) ?_
                      refine xw_ret ?_
                      have hmod : verdict c g = 1 := by first | rfl | (simp [verdict, *]; done) | grind [verdict]
                      exact ⟨[.int .i64 1], by kernel_rfl, fun w' hb hf => by rw [hmod]; exact ⟨rfl, hb⟩⟩
                    · skip
                      refine xw_seq ?_
                      refine xw_region ?_
                      refine xl_call 3 [60, 62] ⟨[(60, .v (.agg (conL c (.slice ra_c_r_heldV c.r.held.length rc_c_r_heldV)).toArray)), (62, .v (.int .i64 g.ack))], [⟨42, conL c (.slice ra_c_r_heldV c.r.held.length rc_c_r_heldV)⟩, ⟨51, segL g⟩], [], [slF (.slice ra_c_r_heldV c.r.held.length rc_c_r_heldV) 2 (c.r.held.map pceCells)]⟩ 69 [.agg (conL c (.slice ra_c_r_heldV c.r.held.length rc_c_r_heldV)).toArray, .int .i64 g.ack] (some 63) (by kernel_rfl) rfl (by kernel_rfl) rfl (by kernel_rfl) (xc_b fun ww hf => sAckFits_c c.t.ip c.t.port c.t.my c.state c.s.una c.s.data c.s.sent c.s.fin c.s.finSent c.s.done c.r.next c.r.data c.r.held (.slice ra_c_r_heldV c.r.held.length rc_c_r_heldV) c.r.fin c.r.done c.window c.most c.o.mss c.o.scale c.o.sack c.o.stamp c.o.val c.o.echo c.timer c.tries g.ack ww ) ?_
                      intro _
                      refine xl_end [59] ⟨[(59, .v (.bool (!(ackFits c g.ack))))], [⟨42, conL c (.slice ra_c_r_heldV c.r.held.length rc_c_r_heldV)⟩, ⟨51, segL g⟩], [], [slF (.slice ra_c_r_heldV c.r.held.length rc_c_r_heldV) 2 (c.r.held.map pceCells)]⟩ (by kernel_rfl) ?_
                      refine xw_cond (b := !(ackFits c g.ack)) (by kernel_rfl) (fun h17 => ?_) (fun h17 => ?_)
                      · skip
                        refine xw_seq ?_
                        refine xw_region ?_
                        refine xl_end [4] ⟨[(4, .v (.int .i64 3))], [⟨42, conL c (.slice ra_c_r_heldV c.r.held.length rc_c_r_heldV)⟩, ⟨51, segL g⟩], [], [slF (.slice ra_c_r_heldV c.r.held.length rc_c_r_heldV) 2 (c.r.held.map pceCells)]⟩ (by kernel_rfl) ?_
                        refine xw_ret ?_
                        have hmod : verdict c g = 3 := by first | rfl | (simp [verdict, *]; done) | grind [verdict]
                        exact ⟨[.int .i64 3], by kernel_rfl, fun w' hb hf => by rw [hmod]; exact ⟨rfl, hb⟩⟩
                      · skip
                        refine xw_skip ?_
                        refine xw_seq ?_
                        refine xw_region ?_
                        refine xl_end [4] ⟨[(4, .v (.int .i64 5))], [⟨42, conL c (.slice ra_c_r_heldV c.r.held.length rc_c_r_heldV)⟩, ⟨51, segL g⟩], [], [slF (.slice ra_c_r_heldV c.r.held.length rc_c_r_heldV) 2 (c.r.held.map pceCells)]⟩ (by kernel_rfl) ?_
                        refine xw_ret ?_
                        have hmod : verdict c g = 5 := by first | rfl | (simp [verdict, *]; done) | grind [verdict]
                        exact ⟨[.int .i64 5], by kernel_rfl, fun w' hb hf => by rw [hmod]; exact ⟨rfl, hb⟩⟩
        · skip
          refine xl_end [2, 3, 19] ⟨[(2, .p 0 0), (3, .p 1 0), (19, .v (.bool false))], [⟨42, conL c (.slice ra_c_r_heldV c.r.held.length rc_c_r_heldV)⟩, ⟨51, segL g⟩], [], [slF (.slice ra_c_r_heldV c.r.held.length rc_c_r_heldV) 2 (c.r.held.map pceCells)]⟩ (by kernel_rfl) ?_
          refine xw_false (by kernel_rfl) ?_
          refine xw_seq ?_
          refine xe_region [] (by kernel_rfl) (fun ρ σ => ?_)
          refine xe_take 0 (.v (.agg (segL g).toArray)) ⟨[(31, .v (.agg (segL g).toArray)), (2, .p 0 0), (3, .p 1 0), (19, .v (.bool false))], [⟨42, conL c (.slice ra_c_r_heldV c.r.held.length rc_c_r_heldV)⟩, ⟨51, segL g⟩], [], [slF (.slice ra_c_r_heldV c.r.held.length rc_c_r_heldV) 2 (c.r.held.map pceCells)]⟩ rfl (by kernel_rfl) (by kernel_rfl) (by kernel_rfl) (fun _ _ h => h) (by kernel_rfl) (by kernel_rfl) rfl (by kernel_rfl) ?_
          refine xe_all [1] (by kernel_rfl) (by simp) ?_
          refine xs_call 1 65 [.agg (segL g).toArray, .int .i64 4] (some 32) rfl (by kernel_rfl) rfl (by kernel_rfl) (xc_b fun ww hf => sHas_c g.src g.dst g.seq g.ack g.flags g.window g.o.mss g.o.scale g.o.sack g.o.stamp g.o.val g.o.echo g.body 4 ww ) ?_
          intro _
          refine xe_take 2 (.v (.bool (hasF g.flags 4))) ⟨[(33, .v (.bool (hasF g.flags 4))), (32, .v (.bool (hasF g.flags 4))), (31, .v (.agg (segL g).toArray)), (2, .p 0 0), (3, .p 1 0), (19, .v (.bool false))], [⟨42, conL c (.slice ra_c_r_heldV c.r.held.length rc_c_r_heldV)⟩, ⟨51, segL g⟩], [], [slF (.slice ra_c_r_heldV c.r.held.length rc_c_r_heldV) 2 (c.r.held.map pceCells)]⟩ rfl (by kernel_rfl) (by kernel_rfl) (by kernel_rfl) (fun _ _ h => h) (by kernel_rfl) (by kernel_rfl) rfl (by kernel_rfl) ?_
          refine xe_split 33 (b := hasF g.flags 4) (by kernel_rfl) (fun h18 => ?_) (fun h18 => ?_)
          · skip
            refine xe_take 3 (.p 1 2) ⟨[(34, .p 1 2), (33, .v (.bool true)), (32, .v (.bool (hasF g.flags 4))), (31, .v (.agg (segL g).toArray)), (2, .p 0 0), (3, .p 1 0), (19, .v (.bool false))], [⟨42, conL c (.slice ra_c_r_heldV c.r.held.length rc_c_r_heldV)⟩, ⟨51, segL g⟩], [], [slF (.slice ra_c_r_heldV c.r.held.length rc_c_r_heldV) 2 (c.r.held.map pceCells)]⟩ rfl (by kernel_rfl) (by kernel_rfl) (by kernel_rfl) (fun _ _ h => h) (by kernel_rfl) (by kernel_rfl) rfl (by kernel_rfl) ?_
            refine xe_take 4 (.v (.int .i64 g.seq)) ⟨[(35, .v (.int .i64 g.seq)), (34, .p 1 2), (33, .v (.bool true)), (32, .v (.bool (hasF g.flags 4))), (31, .v (.agg (segL g).toArray)), (2, .p 0 0), (3, .p 1 0), (19, .v (.bool false))], [⟨42, conL c (.slice ra_c_r_heldV c.r.held.length rc_c_r_heldV)⟩, ⟨51, segL g⟩], [], [slF (.slice ra_c_r_heldV c.r.held.length rc_c_r_heldV) 2 (c.r.held.map pceCells)]⟩ rfl (by kernel_rfl) (by kernel_rfl) (by kernel_rfl) (fun _ _ h => h) (by kernel_rfl) (by kernel_rfl) rfl (by kernel_rfl) ?_
            refine xe_take 5 (.p 0 10) ⟨[(36, .p 0 10), (35, .v (.int .i64 g.seq)), (34, .p 1 2), (33, .v (.bool true)), (32, .v (.bool (hasF g.flags 4))), (31, .v (.agg (segL g).toArray)), (2, .p 0 0), (3, .p 1 0), (19, .v (.bool false))], [⟨42, conL c (.slice ra_c_r_heldV c.r.held.length rc_c_r_heldV)⟩, ⟨51, segL g⟩], [], [slF (.slice ra_c_r_heldV c.r.held.length rc_c_r_heldV) 2 (c.r.held.map pceCells)]⟩ rfl (by kernel_rfl) (by kernel_rfl) (by kernel_rfl) (fun _ _ h => h) (by kernel_rfl) (by kernel_rfl) rfl (by kernel_rfl) ?_
            refine xe_take 6 (.p 0 10) ⟨[(37, .p 0 10), (36, .p 0 10), (35, .v (.int .i64 g.seq)), (34, .p 1 2), (33, .v (.bool true)), (32, .v (.bool (hasF g.flags 4))), (31, .v (.agg (segL g).toArray)), (2, .p 0 0), (3, .p 1 0), (19, .v (.bool false))], [⟨42, conL c (.slice ra_c_r_heldV c.r.held.length rc_c_r_heldV)⟩, ⟨51, segL g⟩], [], [slF (.slice ra_c_r_heldV c.r.held.length rc_c_r_heldV) 2 (c.r.held.map pceCells)]⟩ rfl (by kernel_rfl) (by kernel_rfl) (by kernel_rfl) (fun _ _ h => h) (by kernel_rfl) (by kernel_rfl) rfl (by kernel_rfl) ?_
            refine xe_take 7 (.v (.int .i64 c.r.next)) ⟨[(38, .v (.int .i64 c.r.next)), (37, .p 0 10), (36, .p 0 10), (35, .v (.int .i64 g.seq)), (34, .p 1 2), (33, .v (.bool true)), (32, .v (.bool (hasF g.flags 4))), (31, .v (.agg (segL g).toArray)), (2, .p 0 0), (3, .p 1 0), (19, .v (.bool false))], [⟨42, conL c (.slice ra_c_r_heldV c.r.held.length rc_c_r_heldV)⟩, ⟨51, segL g⟩], [], [slF (.slice ra_c_r_heldV c.r.held.length rc_c_r_heldV) 2 (c.r.held.map pceCells)]⟩ rfl (by kernel_rfl) (by kernel_rfl) (by kernel_rfl) (fun _ _ h => h) (by kernel_rfl) (by kernel_rfl) rfl (by kernel_rfl) ?_
            refine xe_take 8 (.p 0 10) ⟨[(39, .p 0 10), (38, .v (.int .i64 c.r.next)), (37, .p 0 10), (36, .p 0 10), (35, .v (.int .i64 g.seq)), (34, .p 1 2), (33, .v (.bool true)), (32, .v (.bool (hasF g.flags 4))), (31, .v (.agg (segL g).toArray)), (2, .p 0 0), (3, .p 1 0), (19, .v (.bool false))], [⟨42, conL c (.slice ra_c_r_heldV c.r.held.length rc_c_r_heldV)⟩, ⟨51, segL g⟩], [], [slF (.slice ra_c_r_heldV c.r.held.length rc_c_r_heldV) 2 (c.r.held.map pceCells)]⟩ rfl (by kernel_rfl) (by kernel_rfl) (by kernel_rfl) (fun _ _ h => h) (by kernel_rfl) (by kernel_rfl) rfl (by kernel_rfl) ?_
            refine xe_take 9 (.v (.agg (rcvL c.r (.slice ra_c_r_heldV c.r.held.length rc_c_r_heldV)).toArray)) ⟨[(40, .v (.agg (rcvL c.r (.slice ra_c_r_heldV c.r.held.length rc_c_r_heldV)).toArray)), (39, .p 0 10), (38, .v (.int .i64 c.r.next)), (37, .p 0 10), (36, .p 0 10), (35, .v (.int .i64 g.seq)), (34, .p 1 2), (33, .v (.bool true)), (32, .v (.bool (hasF g.flags 4))), (31, .v (.agg (segL g).toArray)), (2, .p 0 0), (3, .p 1 0), (19, .v (.bool false))], [⟨42, conL c (.slice ra_c_r_heldV c.r.held.length rc_c_r_heldV)⟩, ⟨51, segL g⟩], [], [slF (.slice ra_c_r_heldV c.r.held.length rc_c_r_heldV) 2 (c.r.held.map pceCells)]⟩ rfl (by kernel_rfl) (by kernel_rfl) (by kernel_rfl) (fun _ _ h => h) (by kernel_rfl) (by kernel_rfl) rfl (by kernel_rfl) ?_
            refine xe_all [10] (by kernel_rfl) (by simp) ?_
            refine xs_call 10 67 [.agg (rcvL c.r (.slice ra_c_r_heldV c.r.held.length rc_c_r_heldV)).toArray] (some 41) rfl (by kernel_rfl) rfl (by kernel_rfl) (xc_b fun ww hf => sWindowOf_c c.r.next c.r.data c.r.held (.slice ra_c_r_heldV c.r.held.length rc_c_r_heldV) c.r.fin c.r.done ww (by omega)) ?_
            intro _
            refine xe_all [11] (by kernel_rfl) (by simp) ?_
            refine xs_call 11 66 [.int .i64 g.seq, .int .i64 c.r.next, .int .i64 (windowOf c.r)] (some 42) rfl (by kernel_rfl) rfl (by kernel_rfl) (xc_s fun ww hf => sInWindow_c g.seq c.r.next (windowOf c.r) ww ) ?_
            intro _
            refine xe_take 12 (.v (.bool (inWindow g.seq c.r.next (windowOf c.r)))) ⟨[(43, .v (.bool (inWindow g.seq c.r.next (windowOf c.r)))), (42, .v (.bool (inWindow g.seq c.r.next (windowOf c.r)))), (41, .v (.int .i64 (windowOf c.r))), (40, .v (.agg (rcvL c.r (.slice ra_c_r_heldV c.r.held.length rc_c_r_heldV)).toArray)), (39, .p 0 10), (38, .v (.int .i64 c.r.next)), (37, .p 0 10), (36, .p 0 10), (35, .v (.int .i64 g.seq)), (34, .p 1 2), (33, .v (.bool true)), (32, .v (.bool (hasF g.flags 4))), (31, .v (.agg (segL g).toArray)), (2, .p 0 0), (3, .p 1 0), (19, .v (.bool false))], [⟨42, conL c (.slice ra_c_r_heldV c.r.held.length rc_c_r_heldV)⟩, ⟨51, segL g⟩], [], [slF (.slice ra_c_r_heldV c.r.held.length rc_c_r_heldV) 2 (c.r.held.map pceCells)]⟩ rfl (by kernel_rfl) (by kernel_rfl) (by kernel_rfl) (fun _ _ h => h) (by kernel_rfl) (by kernel_rfl) rfl (by kernel_rfl) ?_
            refine xe_take 13 (.v (.bool (inWindow g.seq c.r.next (windowOf c.r)))) ⟨[(30, .v (.bool (inWindow g.seq c.r.next (windowOf c.r)))), (43, .v (.bool (inWindow g.seq c.r.next (windowOf c.r)))), (42, .v (.bool (inWindow g.seq c.r.next (windowOf c.r)))), (41, .v (.int .i64 (windowOf c.r))), (40, .v (.agg (rcvL c.r (.slice ra_c_r_heldV c.r.held.length rc_c_r_heldV)).toArray)), (39, .p 0 10), (38, .v (.int .i64 c.r.next)), (37, .p 0 10), (36, .p 0 10), (35, .v (.int .i64 g.seq)), (34, .p 1 2), (33, .v (.bool true)), (32, .v (.bool (hasF g.flags 4))), (31, .v (.agg (segL g).toArray)), (2, .p 0 0), (3, .p 1 0), (19, .v (.bool false))], [⟨42, conL c (.slice ra_c_r_heldV c.r.held.length rc_c_r_heldV)⟩, ⟨51, segL g⟩], [], [slF (.slice ra_c_r_heldV c.r.held.length rc_c_r_heldV) 2 (c.r.held.map pceCells)]⟩ rfl (by kernel_rfl) (by kernel_rfl) (by kernel_rfl) (fun _ _ h => h) (by kernel_rfl) (by kernel_rfl) rfl (by kernel_rfl) ?_
            refine xe_done (by kernel_rfl) ?_
            refine xw_cond (b := inWindow g.seq c.r.next (windowOf c.r)) (by kernel_rfl) (fun h19 => ?_) (fun h19 => ?_)
            · skip
              refine xw_seq ?_
              refine xw_region ?_
              refine xl_end [4] ⟨[(4, .v (.int .i64 3))], [⟨42, conL c (.slice ra_c_r_heldV c.r.held.length rc_c_r_heldV)⟩, ⟨51, segL g⟩], [], [slF (.slice ra_c_r_heldV c.r.held.length rc_c_r_heldV) 2 (c.r.held.map pceCells)]⟩ (by kernel_rfl) ?_
              refine xw_ret ?_
              have hmod : verdict c g = 3 := by first | rfl | (simp [verdict, *]; done) | grind [verdict]
              exact ⟨[.int .i64 3], by kernel_rfl, fun w' hb hf => by rw [hmod]; exact ⟨rfl, hb⟩⟩
            · skip
              refine xw_seq ?_
              refine xw_region ?_
              refine xl_call 1 [2, 3, 45] ⟨[(2, .p 0 0), (3, .p 1 0), (45, .v (.agg (segL g).toArray))], [⟨42, conL c (.slice ra_c_r_heldV c.r.held.length rc_c_r_heldV)⟩, ⟨51, segL g⟩], [], [slF (.slice ra_c_r_heldV c.r.held.length rc_c_r_heldV) 2 (c.r.held.map pceCells)]⟩ 65 [.agg (segL g).toArray, .int .i64 4] (some 46) (by kernel_rfl) rfl (by kernel_rfl) rfl (by kernel_rfl) (xc_b fun ww hf => sHas_c g.src g.dst g.seq g.ack g.flags g.window g.o.mss g.o.scale g.o.sack g.o.stamp g.o.val g.o.echo g.body 4 ww ) ?_
              intro _
              refine xl_end [2, 3, 44] ⟨[(2, .p 0 0), (3, .p 1 0), (44, .v (.bool (hasF g.flags 4)))], [⟨42, conL c (.slice ra_c_r_heldV c.r.held.length rc_c_r_heldV)⟩, ⟨51, segL g⟩], [], [slF (.slice ra_c_r_heldV c.r.held.length rc_c_r_heldV) 2 (c.r.held.map pceCells)]⟩ (by kernel_rfl) ?_
              refine xw_cond (b := hasF g.flags 4) (by kernel_rfl) (fun h20 => ?_) (fun h20 => ?_)
              · skip
                refine xw_seq ?_
                refine xw_region ?_
                refine xl_end [4] ⟨[(4, .v (.int .i64 1))], [⟨42, conL c (.slice ra_c_r_heldV c.r.held.length rc_c_r_heldV)⟩, ⟨51, segL g⟩], [], [slF (.slice ra_c_r_heldV c.r.held.length rc_c_r_heldV) 2 (c.r.held.map pceCells)]⟩ (by kernel_rfl) ?_
                refine xw_ret ?_
                have hmod : verdict c g = 1 := by first | rfl | (simp [verdict, *]; done) | grind [verdict]
                exact ⟨[.int .i64 1], by kernel_rfl, fun w' hb hf => by rw [hmod]; exact ⟨rfl, hb⟩⟩
              · skip
                refine xw_seq ?_
                refine xw_region ?_
                refine xl_call 1 [2, 3, 48] ⟨[(2, .p 0 0), (3, .p 1 0), (48, .v (.agg (segL g).toArray))], [⟨42, conL c (.slice ra_c_r_heldV c.r.held.length rc_c_r_heldV)⟩, ⟨51, segL g⟩], [], [slF (.slice ra_c_r_heldV c.r.held.length rc_c_r_heldV) 2 (c.r.held.map pceCells)]⟩ 65 [.agg (segL g).toArray, .int .i64 2] (some 49) (by kernel_rfl) rfl (by kernel_rfl) rfl (by kernel_rfl) (xc_b fun ww hf => sHas_c g.src g.dst g.seq g.ack g.flags g.window g.o.mss g.o.scale g.o.sack g.o.stamp g.o.val g.o.echo g.body 2 ww ) ?_
                intro _
                refine xl_end [2, 3, 47] ⟨[(2, .p 0 0), (3, .p 1 0), (47, .v (.bool (hasF g.flags 2)))], [⟨42, conL c (.slice ra_c_r_heldV c.r.held.length rc_c_r_heldV)⟩, ⟨51, segL g⟩], [], [slF (.slice ra_c_r_heldV c.r.held.length rc_c_r_heldV) 2 (c.r.held.map pceCells)]⟩ (by kernel_rfl) ?_
                refine xw_cond (b := hasF g.flags 2) (by kernel_rfl) (fun h21 => ?_) (fun h21 => ?_)
                · skip
                  refine xw_seq ?_
                  refine xw_region ?_
                  refine xl_end [4] ⟨[(4, .v (.int .i64 3))], [⟨42, conL c (.slice ra_c_r_heldV c.r.held.length rc_c_r_heldV)⟩, ⟨51, segL g⟩], [], [slF (.slice ra_c_r_heldV c.r.held.length rc_c_r_heldV) 2 (c.r.held.map pceCells)]⟩ (by kernel_rfl) ?_
                  refine xw_ret ?_
                  have hmod : verdict c g = 3 := by first | rfl | (simp [verdict, *]; done) | grind [verdict]
                  exact ⟨[.int .i64 3], by kernel_rfl, fun w' hb hf => by rw [hmod]; exact ⟨rfl, hb⟩⟩
                · skip
                  refine xw_seq ?_
                  refine xw_region ?_
                  refine xl_call 2 [2, 3, 51, 52] ⟨[(2, .p 0 0), (3, .p 1 0), (51, .v (.agg (conL c (.slice ra_c_r_heldV c.r.held.length rc_c_r_heldV)).toArray)), (52, .v (.agg (segL g).toArray))], [⟨42, conL c (.slice ra_c_r_heldV c.r.held.length rc_c_r_heldV)⟩, ⟨51, segL g⟩], [], [slF (.slice ra_c_r_heldV c.r.held.length rc_c_r_heldV) 2 (c.r.held.map pceCells)]⟩ 68 [.agg (conL c (.slice ra_c_r_heldV c.r.held.length rc_c_r_heldV)).toArray, .agg (segL g).toArray] (some 53) (by kernel_rfl) rfl (by kernel_rfl) rfl (by kernel_rfl) (xc_b fun ww hf => sAcceptable_c c.t.ip c.t.port c.t.my c.state c.s.una c.s.data c.s.sent c.s.fin c.s.finSent c.s.done c.r.next c.r.data c.r.held (.slice ra_c_r_heldV c.r.held.length rc_c_r_heldV) c.r.fin c.r.done c.window c.most c.o.mss c.o.scale c.o.sack c.o.stamp c.o.val c.o.echo c.timer c.tries g.src g.dst g.seq g.ack g.flags g.window g.o.mss g.o.scale g.o.sack g.o.stamp g.o.val g.o.echo g.body ww (by omega) (by omega)) ?_
                  intro _
                  refine xl_end [2, 3, 50] ⟨[(2, .p 0 0), (3, .p 1 0), (50, .v (.bool (!(acceptable c g))))], [⟨42, conL c (.slice ra_c_r_heldV c.r.held.length rc_c_r_heldV)⟩, ⟨51, segL g⟩], [], [slF (.slice ra_c_r_heldV c.r.held.length rc_c_r_heldV) 2 (c.r.held.map pceCells)]⟩ (by kernel_rfl) ?_
                  refine xw_cond (b := !(acceptable c g)) (by kernel_rfl) (fun h22 => ?_) (fun h22 => ?_)
                  · skip
                    refine xw_seq ?_
                    refine xw_region ?_
                    refine xl_end [4] ⟨[(4, .v (.int .i64 4))], [⟨42, conL c (.slice ra_c_r_heldV c.r.held.length rc_c_r_heldV)⟩, ⟨51, segL g⟩], [], [slF (.slice ra_c_r_heldV c.r.held.length rc_c_r_heldV) 2 (c.r.held.map pceCells)]⟩ (by kernel_rfl) ?_
                    refine xw_ret ?_
                    have hmod : verdict c g = 4 := by first | rfl | (simp [verdict, *]; done) | grind [verdict]
                    exact ⟨[.int .i64 4], by kernel_rfl, fun w' hb hf => by rw [hmod]; exact ⟨rfl, hb⟩⟩
                  · skip
                    refine xw_seq ?_
                    refine xw_region ?_
                    refine xl_call 1 [2, 3, 56] ⟨[(2, .p 0 0), (3, .p 1 0), (56, .v (.agg (segL g).toArray))], [⟨42, conL c (.slice ra_c_r_heldV c.r.held.length rc_c_r_heldV)⟩, ⟨51, segL g⟩], [], [slF (.slice ra_c_r_heldV c.r.held.length rc_c_r_heldV) 2 (c.r.held.map pceCells)]⟩ 65 [.agg (segL g).toArray, .int .i64 16] (some 57) (by kernel_rfl) rfl (by kernel_rfl) rfl (by kernel_rfl) (xc_b fun ww hf => sHas_c g.src g.dst g.seq g.ack g.flags g.window g.o.mss g.o.scale g.o.sack g.o.stamp g.o.val g.o.echo g.body 16 ww ) ?_
                    intro _
                    refine xl_end [2, 3, 55] ⟨[(2, .p 0 0), (3, .p 1 0), (55, .v (.bool (!(hasF g.flags 16))))], [⟨42, conL c (.slice ra_c_r_heldV c.r.held.length rc_c_r_heldV)⟩, ⟨51, segL g⟩], [], [slF (.slice ra_c_r_heldV c.r.held.length rc_c_r_heldV) 2 (c.r.held.map pceCells)]⟩ (by kernel_rfl) ?_
                    refine xw_cond (b := !(hasF g.flags 16)) (by kernel_rfl) (fun h23 => ?_) (fun h23 => ?_)
                    · skip
                      refine xw_seq ?_
                      refine xw_region ?_
                      refine xl_end [4] ⟨[(4, .v (.int .i64 1))], [⟨42, conL c (.slice ra_c_r_heldV c.r.held.length rc_c_r_heldV)⟩, ⟨51, segL g⟩], [], [slF (.slice ra_c_r_heldV c.r.held.length rc_c_r_heldV) 2 (c.r.held.map pceCells)]⟩ (by kernel_rfl) ?_
                      refine xw_ret ?_
                      have hmod : verdict c g = 1 := by first | rfl | (simp [verdict, *]; done) | grind [verdict]
                      exact ⟨[.int .i64 1], by kernel_rfl, fun w' hb hf => by rw [hmod]; exact ⟨rfl, hb⟩⟩
                    · skip
                      refine xw_seq ?_
                      refine xw_region ?_
                      refine xl_call 3 [60, 62] ⟨[(60, .v (.agg (conL c (.slice ra_c_r_heldV c.r.held.length rc_c_r_heldV)).toArray)), (62, .v (.int .i64 g.ack))], [⟨42, conL c (.slice ra_c_r_heldV c.r.held.length rc_c_r_heldV)⟩, ⟨51, segL g⟩], [], [slF (.slice ra_c_r_heldV c.r.held.length rc_c_r_heldV) 2 (c.r.held.map pceCells)]⟩ 69 [.agg (conL c (.slice ra_c_r_heldV c.r.held.length rc_c_r_heldV)).toArray, .int .i64 g.ack] (some 63) (by kernel_rfl) rfl (by kernel_rfl) rfl (by kernel_rfl) (xc_b fun ww hf => sAckFits_c c.t.ip c.t.port c.t.my c.state c.s.una c.s.data c.s.sent c.s.fin c.s.finSent c.s.done c.r.next c.r.data c.r.held (.slice ra_c_r_heldV c.r.held.length rc_c_r_heldV) c.r.fin c.r.done c.window c.most c.o.mss c.o.scale c.o.sack c.o.stamp c.o.val c.o.echo c.timer c.tries g.ack ww ) ?_
                      intro _
                      refine xl_end [59] ⟨[(59, .v (.bool (!(ackFits c g.ack))))], [⟨42, conL c (.slice ra_c_r_heldV c.r.held.length rc_c_r_heldV)⟩, ⟨51, segL g⟩], [], [slF (.slice ra_c_r_heldV c.r.held.length rc_c_r_heldV) 2 (c.r.held.map pceCells)]⟩ (by kernel_rfl) ?_
                      refine xw_cond (b := !(ackFits c g.ack)) (by kernel_rfl) (fun h24 => ?_) (fun h24 => ?_)
                      · skip
                        refine xw_seq ?_
                        refine xw_region ?_
                        refine xl_end [4] ⟨[(4, .v (.int .i64 3))], [⟨42, conL c (.slice ra_c_r_heldV c.r.held.length rc_c_r_heldV)⟩, ⟨51, segL g⟩], [], [slF (.slice ra_c_r_heldV c.r.held.length rc_c_r_heldV) 2 (c.r.held.map pceCells)]⟩ (by kernel_rfl) ?_
                        refine xw_ret ?_
                        have hmod : verdict c g = 3 := by first | rfl | (simp [verdict, *]; done) | grind [verdict]
                        exact ⟨[.int .i64 3], by kernel_rfl, fun w' hb hf => by rw [hmod]; exact ⟨rfl, hb⟩⟩
                      · skip
                        refine xw_skip ?_
                        refine xw_seq ?_
                        refine xw_region ?_
                        refine xl_end [4] ⟨[(4, .v (.int .i64 5))], [⟨42, conL c (.slice ra_c_r_heldV c.r.held.length rc_c_r_heldV)⟩, ⟨51, segL g⟩], [], [slF (.slice ra_c_r_heldV c.r.held.length rc_c_r_heldV) 2 (c.r.held.map pceCells)]⟩ (by kernel_rfl) ?_
                        refine xw_ret ?_
                        have hmod : verdict c g = 5 := by first | rfl | (simp [verdict, *]; done) | grind [verdict]
                        exact ⟨[.int .i64 5], by kernel_rfl, fun w' hb hf => by rw [hmod]; exact ⟨rfl, hb⟩⟩
          · skip
            refine xe_skip 3 ⟨[(34, .v undef), (33, .v (.bool false)), (32, .v (.bool (hasF g.flags 4))), (31, .v (.agg (segL g).toArray)), (2, .p 0 0), (3, .p 1 0), (19, .v (.bool false))], [⟨42, conL c (.slice ra_c_r_heldV c.r.held.length rc_c_r_heldV)⟩, ⟨51, segL g⟩], [], [slF (.slice ra_c_r_heldV c.r.held.length rc_c_r_heldV) 2 (c.r.held.map pceCells)]⟩ rfl (by kernel_rfl) (by kernel_rfl) (by kernel_rfl) (fun _ _ h => h) (by kernel_rfl) rfl (by kernel_rfl) ?_
            refine xe_skip 4 ⟨[(35, .v undef), (34, .v undef), (33, .v (.bool false)), (32, .v (.bool (hasF g.flags 4))), (31, .v (.agg (segL g).toArray)), (2, .p 0 0), (3, .p 1 0), (19, .v (.bool false))], [⟨42, conL c (.slice ra_c_r_heldV c.r.held.length rc_c_r_heldV)⟩, ⟨51, segL g⟩], [], [slF (.slice ra_c_r_heldV c.r.held.length rc_c_r_heldV) 2 (c.r.held.map pceCells)]⟩ rfl (by kernel_rfl) (by kernel_rfl) (by kernel_rfl) (fun _ _ h => h) (by kernel_rfl) rfl (by kernel_rfl) ?_
            refine xe_skip 5 ⟨[(36, .v undef), (35, .v undef), (34, .v undef), (33, .v (.bool false)), (32, .v (.bool (hasF g.flags 4))), (31, .v (.agg (segL g).toArray)), (2, .p 0 0), (3, .p 1 0), (19, .v (.bool false))], [⟨42, conL c (.slice ra_c_r_heldV c.r.held.length rc_c_r_heldV)⟩, ⟨51, segL g⟩], [], [slF (.slice ra_c_r_heldV c.r.held.length rc_c_r_heldV) 2 (c.r.held.map pceCells)]⟩ rfl (by kernel_rfl) (by kernel_rfl) (by kernel_rfl) (fun _ _ h => h) (by kernel_rfl) rfl (by kernel_rfl) ?_
            refine xe_skip 6 ⟨[(37, .v undef), (36, .v undef), (35, .v undef), (34, .v undef), (33, .v (.bool false)), (32, .v (.bool (hasF g.flags 4))), (31, .v (.agg (segL g).toArray)), (2, .p 0 0), (3, .p 1 0), (19, .v (.bool false))], [⟨42, conL c (.slice ra_c_r_heldV c.r.held.length rc_c_r_heldV)⟩, ⟨51, segL g⟩], [], [slF (.slice ra_c_r_heldV c.r.held.length rc_c_r_heldV) 2 (c.r.held.map pceCells)]⟩ rfl (by kernel_rfl) (by kernel_rfl) (by kernel_rfl) (fun _ _ h => h) (by kernel_rfl) rfl (by kernel_rfl) ?_
            refine xe_skip 7 ⟨[(38, .v undef), (37, .v undef), (36, .v undef), (35, .v undef), (34, .v undef), (33, .v (.bool false)), (32, .v (.bool (hasF g.flags 4))), (31, .v (.agg (segL g).toArray)), (2, .p 0 0), (3, .p 1 0), (19, .v (.bool false))], [⟨42, conL c (.slice ra_c_r_heldV c.r.held.length rc_c_r_heldV)⟩, ⟨51, segL g⟩], [], [slF (.slice ra_c_r_heldV c.r.held.length rc_c_r_heldV) 2 (c.r.held.map pceCells)]⟩ rfl (by kernel_rfl) (by kernel_rfl) (by kernel_rfl) (fun _ _ h => h) (by kernel_rfl) rfl (by kernel_rfl) ?_
            refine xe_skip 8 ⟨[(39, .v undef), (38, .v undef), (37, .v undef), (36, .v undef), (35, .v undef), (34, .v undef), (33, .v (.bool false)), (32, .v (.bool (hasF g.flags 4))), (31, .v (.agg (segL g).toArray)), (2, .p 0 0), (3, .p 1 0), (19, .v (.bool false))], [⟨42, conL c (.slice ra_c_r_heldV c.r.held.length rc_c_r_heldV)⟩, ⟨51, segL g⟩], [], [slF (.slice ra_c_r_heldV c.r.held.length rc_c_r_heldV) 2 (c.r.held.map pceCells)]⟩ rfl (by kernel_rfl) (by kernel_rfl) (by kernel_rfl) (fun _ _ h => h) (by kernel_rfl) rfl (by kernel_rfl) ?_
            refine xe_skip 9 ⟨[(40, .v undef), (39, .v undef), (38, .v undef), (37, .v undef), (36, .v undef), (35, .v undef), (34, .v undef), (33, .v (.bool false)), (32, .v (.bool (hasF g.flags 4))), (31, .v (.agg (segL g).toArray)), (2, .p 0 0), (3, .p 1 0), (19, .v (.bool false))], [⟨42, conL c (.slice ra_c_r_heldV c.r.held.length rc_c_r_heldV)⟩, ⟨51, segL g⟩], [], [slF (.slice ra_c_r_heldV c.r.held.length rc_c_r_heldV) 2 (c.r.held.map pceCells)]⟩ rfl (by kernel_rfl) (by kernel_rfl) (by kernel_rfl) (fun _ _ h => h) (by kernel_rfl) rfl (by kernel_rfl) ?_
            refine xe_skip 10 ⟨[(41, .v undef), (40, .v undef), (39, .v undef), (38, .v undef), (37, .v undef), (36, .v undef), (35, .v undef), (34, .v undef), (33, .v (.bool false)), (32, .v (.bool (hasF g.flags 4))), (31, .v (.agg (segL g).toArray)), (2, .p 0 0), (3, .p 1 0), (19, .v (.bool false))], [⟨42, conL c (.slice ra_c_r_heldV c.r.held.length rc_c_r_heldV)⟩, ⟨51, segL g⟩], [], [slF (.slice ra_c_r_heldV c.r.held.length rc_c_r_heldV) 2 (c.r.held.map pceCells)]⟩ rfl (by kernel_rfl) (by kernel_rfl) (by kernel_rfl) (fun _ _ h => h) (by kernel_rfl) rfl (by kernel_rfl) ?_
            refine xe_skip 11 ⟨[(42, .v undef), (41, .v undef), (40, .v undef), (39, .v undef), (38, .v undef), (37, .v undef), (36, .v undef), (35, .v undef), (34, .v undef), (33, .v (.bool false)), (32, .v (.bool (hasF g.flags 4))), (31, .v (.agg (segL g).toArray)), (2, .p 0 0), (3, .p 1 0), (19, .v (.bool false))], [⟨42, conL c (.slice ra_c_r_heldV c.r.held.length rc_c_r_heldV)⟩, ⟨51, segL g⟩], [], [slF (.slice ra_c_r_heldV c.r.held.length rc_c_r_heldV) 2 (c.r.held.map pceCells)]⟩ rfl (by kernel_rfl) (by kernel_rfl) (by kernel_rfl) (fun _ _ h => h) (by kernel_rfl) rfl (by kernel_rfl) ?_
            refine xe_take 12 (.v (.bool false)) ⟨[(43, .v (.bool false)), (42, .v undef), (41, .v undef), (40, .v undef), (39, .v undef), (38, .v undef), (37, .v undef), (36, .v undef), (35, .v undef), (34, .v undef), (33, .v (.bool false)), (32, .v (.bool (hasF g.flags 4))), (31, .v (.agg (segL g).toArray)), (2, .p 0 0), (3, .p 1 0), (19, .v (.bool false))], [⟨42, conL c (.slice ra_c_r_heldV c.r.held.length rc_c_r_heldV)⟩, ⟨51, segL g⟩], [], [slF (.slice ra_c_r_heldV c.r.held.length rc_c_r_heldV) 2 (c.r.held.map pceCells)]⟩ rfl (by kernel_rfl) (by kernel_rfl) (by kernel_rfl) (fun _ _ h => h) (by kernel_rfl) (by kernel_rfl) rfl (by kernel_rfl) ?_
            refine xe_take 13 (.v (.bool false)) ⟨[(30, .v (.bool false)), (43, .v (.bool false)), (42, .v undef), (41, .v undef), (40, .v undef), (39, .v undef), (38, .v undef), (37, .v undef), (36, .v undef), (35, .v undef), (34, .v undef), (33, .v (.bool false)), (32, .v (.bool (hasF g.flags 4))), (31, .v (.agg (segL g).toArray)), (2, .p 0 0), (3, .p 1 0), (19, .v (.bool false))], [⟨42, conL c (.slice ra_c_r_heldV c.r.held.length rc_c_r_heldV)⟩, ⟨51, segL g⟩], [], [slF (.slice ra_c_r_heldV c.r.held.length rc_c_r_heldV) 2 (c.r.held.map pceCells)]⟩ rfl (by kernel_rfl) (by kernel_rfl) (by kernel_rfl) (fun _ _ h => h) (by kernel_rfl) (by kernel_rfl) rfl (by kernel_rfl) ?_
            refine xe_done (by kernel_rfl) ?_
            refine xw_false (by kernel_rfl) ?_
            refine xw_seq ?_
            refine xw_region ?_
            refine xl_call 1 [2, 3, 45] ⟨[(2, .p 0 0), (3, .p 1 0), (45, .v (.agg (segL g).toArray))], [⟨42, conL c (.slice ra_c_r_heldV c.r.held.length rc_c_r_heldV)⟩, ⟨51, segL g⟩], [], [slF (.slice ra_c_r_heldV c.r.held.length rc_c_r_heldV) 2 (c.r.held.map pceCells)]⟩ 65 [.agg (segL g).toArray, .int .i64 4] (some 46) (by kernel_rfl) rfl (by kernel_rfl) rfl (by kernel_rfl) (xc_b fun ww hf => sHas_c g.src g.dst g.seq g.ack g.flags g.window g.o.mss g.o.scale g.o.sack g.o.stamp g.o.val g.o.echo g.body 4 ww ) ?_
            intro _
            refine xl_end [2, 3, 44] ⟨[(2, .p 0 0), (3, .p 1 0), (44, .v (.bool (hasF g.flags 4)))], [⟨42, conL c (.slice ra_c_r_heldV c.r.held.length rc_c_r_heldV)⟩, ⟨51, segL g⟩], [], [slF (.slice ra_c_r_heldV c.r.held.length rc_c_r_heldV) 2 (c.r.held.map pceCells)]⟩ (by kernel_rfl) ?_
            refine xw_cond (b := hasF g.flags 4) (by kernel_rfl) (fun h25 => ?_) (fun h25 => ?_)
            · skip
              refine xw_seq ?_
              refine xw_region ?_
              refine xl_end [4] ⟨[(4, .v (.int .i64 1))], [⟨42, conL c (.slice ra_c_r_heldV c.r.held.length rc_c_r_heldV)⟩, ⟨51, segL g⟩], [], [slF (.slice ra_c_r_heldV c.r.held.length rc_c_r_heldV) 2 (c.r.held.map pceCells)]⟩ (by kernel_rfl) ?_
              refine xw_ret ?_
              have hmod : verdict c g = 1 := by first | rfl | (simp [verdict, *]; done) | grind [verdict]
              exact ⟨[.int .i64 1], by kernel_rfl, fun w' hb hf => by rw [hmod]; exact ⟨rfl, hb⟩⟩
            · skip
              refine xw_seq ?_
              refine xw_region ?_
              refine xl_call 1 [2, 3, 48] ⟨[(2, .p 0 0), (3, .p 1 0), (48, .v (.agg (segL g).toArray))], [⟨42, conL c (.slice ra_c_r_heldV c.r.held.length rc_c_r_heldV)⟩, ⟨51, segL g⟩], [], [slF (.slice ra_c_r_heldV c.r.held.length rc_c_r_heldV) 2 (c.r.held.map pceCells)]⟩ 65 [.agg (segL g).toArray, .int .i64 2] (some 49) (by kernel_rfl) rfl (by kernel_rfl) rfl (by kernel_rfl) (xc_b fun ww hf => sHas_c g.src g.dst g.seq g.ack g.flags g.window g.o.mss g.o.scale g.o.sack g.o.stamp g.o.val g.o.echo g.body 2 ww ) ?_
              intro _
              refine xl_end [2, 3, 47] ⟨[(2, .p 0 0), (3, .p 1 0), (47, .v (.bool (hasF g.flags 2)))], [⟨42, conL c (.slice ra_c_r_heldV c.r.held.length rc_c_r_heldV)⟩, ⟨51, segL g⟩], [], [slF (.slice ra_c_r_heldV c.r.held.length rc_c_r_heldV) 2 (c.r.held.map pceCells)]⟩ (by kernel_rfl) ?_
              refine xw_cond (b := hasF g.flags 2) (by kernel_rfl) (fun h26 => ?_) (fun h26 => ?_)
              · skip
                refine xw_seq ?_
                refine xw_region ?_
                refine xl_end [4] ⟨[(4, .v (.int .i64 3))], [⟨42, conL c (.slice ra_c_r_heldV c.r.held.length rc_c_r_heldV)⟩, ⟨51, segL g⟩], [], [slF (.slice ra_c_r_heldV c.r.held.length rc_c_r_heldV) 2 (c.r.held.map pceCells)]⟩ (by kernel_rfl) ?_
                refine xw_ret ?_
                have hmod : verdict c g = 3 := by first | rfl | (simp [verdict, *]; done) | grind [verdict]
                exact ⟨[.int .i64 3], by kernel_rfl, fun w' hb hf => by rw [hmod]; exact ⟨rfl, hb⟩⟩
              · skip
                refine xw_seq ?_
                refine xw_region ?_
                refine xl_call 2 [2, 3, 51, 52] ⟨[(2, .p 0 0), (3, .p 1 0), (51, .v (.agg (conL c (.slice ra_c_r_heldV c.r.held.length rc_c_r_heldV)).toArray)), (52, .v (.agg (segL g).toArray))], [⟨42, conL c (.slice ra_c_r_heldV c.r.held.length rc_c_r_heldV)⟩, ⟨51, segL g⟩], [], [slF (.slice ra_c_r_heldV c.r.held.length rc_c_r_heldV) 2 (c.r.held.map pceCells)]⟩ 68 [.agg (conL c (.slice ra_c_r_heldV c.r.held.length rc_c_r_heldV)).toArray, .agg (segL g).toArray] (some 53) (by kernel_rfl) rfl (by kernel_rfl) rfl (by kernel_rfl) (xc_b fun ww hf => sAcceptable_c c.t.ip c.t.port c.t.my c.state c.s.una c.s.data c.s.sent c.s.fin c.s.finSent c.s.done c.r.next c.r.data c.r.held (.slice ra_c_r_heldV c.r.held.length rc_c_r_heldV) c.r.fin c.r.done c.window c.most c.o.mss c.o.scale c.o.sack c.o.stamp c.o.val c.o.echo c.timer c.tries g.src g.dst g.seq g.ack g.flags g.window g.o.mss g.o.scale g.o.sack g.o.stamp g.o.val g.o.echo g.body ww (by omega) (by omega)) ?_
                intro _
                refine xl_end [2, 3, 50] ⟨[(2, .p 0 0), (3, .p 1 0), (50, .v (.bool (!(acceptable c g))))], [⟨42, conL c (.slice ra_c_r_heldV c.r.held.length rc_c_r_heldV)⟩, ⟨51, segL g⟩], [], [slF (.slice ra_c_r_heldV c.r.held.length rc_c_r_heldV) 2 (c.r.held.map pceCells)]⟩ (by kernel_rfl) ?_
                refine xw_cond (b := !(acceptable c g)) (by kernel_rfl) (fun h27 => ?_) (fun h27 => ?_)
                · skip
                  refine xw_seq ?_
                  refine xw_region ?_
                  refine xl_end [4] ⟨[(4, .v (.int .i64 4))], [⟨42, conL c (.slice ra_c_r_heldV c.r.held.length rc_c_r_heldV)⟩, ⟨51, segL g⟩], [], [slF (.slice ra_c_r_heldV c.r.held.length rc_c_r_heldV) 2 (c.r.held.map pceCells)]⟩ (by kernel_rfl) ?_
                  refine xw_ret ?_
                  have hmod : verdict c g = 4 := by first | rfl | (simp [verdict, *]; done) | grind [verdict]
                  exact ⟨[.int .i64 4], by kernel_rfl, fun w' hb hf => by rw [hmod]; exact ⟨rfl, hb⟩⟩
                · skip
                  refine xw_seq ?_
                  refine xw_region ?_
                  refine xl_call 1 [2, 3, 56] ⟨[(2, .p 0 0), (3, .p 1 0), (56, .v (.agg (segL g).toArray))], [⟨42, conL c (.slice ra_c_r_heldV c.r.held.length rc_c_r_heldV)⟩, ⟨51, segL g⟩], [], [slF (.slice ra_c_r_heldV c.r.held.length rc_c_r_heldV) 2 (c.r.held.map pceCells)]⟩ 65 [.agg (segL g).toArray, .int .i64 16] (some 57) (by kernel_rfl) rfl (by kernel_rfl) rfl (by kernel_rfl) (xc_b fun ww hf => sHas_c g.src g.dst g.seq g.ack g.flags g.window g.o.mss g.o.scale g.o.sack g.o.stamp g.o.val g.o.echo g.body 16 ww ) ?_
                  intro _
                  refine xl_end [2, 3, 55] ⟨[(2, .p 0 0), (3, .p 1 0), (55, .v (.bool (!(hasF g.flags 16))))], [⟨42, conL c (.slice ra_c_r_heldV c.r.held.length rc_c_r_heldV)⟩, ⟨51, segL g⟩], [], [slF (.slice ra_c_r_heldV c.r.held.length rc_c_r_heldV) 2 (c.r.held.map pceCells)]⟩ (by kernel_rfl) ?_
                  refine xw_cond (b := !(hasF g.flags 16)) (by kernel_rfl) (fun h28 => ?_) (fun h28 => ?_)
                  · skip
                    refine xw_seq ?_
                    refine xw_region ?_
                    refine xl_end [4] ⟨[(4, .v (.int .i64 1))], [⟨42, conL c (.slice ra_c_r_heldV c.r.held.length rc_c_r_heldV)⟩, ⟨51, segL g⟩], [], [slF (.slice ra_c_r_heldV c.r.held.length rc_c_r_heldV) 2 (c.r.held.map pceCells)]⟩ (by kernel_rfl) ?_
                    refine xw_ret ?_
                    have hmod : verdict c g = 1 := by first | rfl | (simp [verdict, *]; done) | grind [verdict]
                    exact ⟨[.int .i64 1], by kernel_rfl, fun w' hb hf => by rw [hmod]; exact ⟨rfl, hb⟩⟩
                  · skip
                    refine xw_seq ?_
                    refine xw_region ?_
                    refine xl_call 3 [60, 62] ⟨[(60, .v (.agg (conL c (.slice ra_c_r_heldV c.r.held.length rc_c_r_heldV)).toArray)), (62, .v (.int .i64 g.ack))], [⟨42, conL c (.slice ra_c_r_heldV c.r.held.length rc_c_r_heldV)⟩, ⟨51, segL g⟩], [], [slF (.slice ra_c_r_heldV c.r.held.length rc_c_r_heldV) 2 (c.r.held.map pceCells)]⟩ 69 [.agg (conL c (.slice ra_c_r_heldV c.r.held.length rc_c_r_heldV)).toArray, .int .i64 g.ack] (some 63) (by kernel_rfl) rfl (by kernel_rfl) rfl (by kernel_rfl) (xc_b fun ww hf => sAckFits_c c.t.ip c.t.port c.t.my c.state c.s.una c.s.data c.s.sent c.s.fin c.s.finSent c.s.done c.r.next c.r.data c.r.held (.slice ra_c_r_heldV c.r.held.length rc_c_r_heldV) c.r.fin c.r.done c.window c.most c.o.mss c.o.scale c.o.sack c.o.stamp c.o.val c.o.echo c.timer c.tries g.ack ww ) ?_
                    intro _
                    refine xl_end [59] ⟨[(59, .v (.bool (!(ackFits c g.ack))))], [⟨42, conL c (.slice ra_c_r_heldV c.r.held.length rc_c_r_heldV)⟩, ⟨51, segL g⟩], [], [slF (.slice ra_c_r_heldV c.r.held.length rc_c_r_heldV) 2 (c.r.held.map pceCells)]⟩ (by kernel_rfl) ?_
                    refine xw_cond (b := !(ackFits c g.ack)) (by kernel_rfl) (fun h29 => ?_) (fun h29 => ?_)
                    · skip
                      refine xw_seq ?_
                      refine xw_region ?_
                      refine xl_end [4] ⟨[(4, .v (.int .i64 3))], [⟨42, conL c (.slice ra_c_r_heldV c.r.held.length rc_c_r_heldV)⟩, ⟨51, segL g⟩], [], [slF (.slice ra_c_r_heldV c.r.held.length rc_c_r_heldV) 2 (c.r.held.map pceCells)]⟩ (by kernel_rfl) ?_
                      refine xw_ret ?_
                      have hmod : verdict c g = 3 := by first | rfl | (simp [verdict, *]; done) | grind [verdict]
                      exact ⟨[.int .i64 3], by kernel_rfl, fun w' hb hf => by rw [hmod]; exact ⟨rfl, hb⟩⟩
                    · skip
                      refine xw_skip ?_
                      refine xw_seq ?_
                      refine xw_region ?_
                      refine xl_end [4] ⟨[(4, .v (.int .i64 5))], [⟨42, conL c (.slice ra_c_r_heldV c.r.held.length rc_c_r_heldV)⟩, ⟨51, segL g⟩], [], [slF (.slice ra_c_r_heldV c.r.held.length rc_c_r_heldV) 2 (c.r.held.map pceCells)]⟩ (by kernel_rfl) ?_
                      refine xw_ret ?_
                      have hmod : verdict c g = 5 := by first | rfl | (simp [verdict, *]; done) | grind [verdict]
                      exact ⟨[.int .i64 5], by kernel_rfl, fun w' hb hf => by rw [hmod]; exact ⟨rfl, hb⟩⟩
theorem ysResetFor_c (g : Seg) (w : World) (hgz : g.body.size ≤ 1048576) : Calls Try.prog 24 #[.agg (segL g).toArray] w fun e w' => e = .returned (.tuple #[.agg #[.int .i64 ((resetFor g).1.src), .int .i64 ((resetFor g).1.dst), .int .i64 ((resetFor g).1.seq), .int .i64 ((resetFor g).1.ack), .int .i64 ((resetFor g).1.flags), .int .i64 ((resetFor g).1.window), .int .i64 ((resetFor g).1.o.mss), .int .i64 ((resetFor g).1.o.scale), .bool ((resetFor g).1.o.sack), .bool ((resetFor g).1.o.stamp), .int .i64 ((resetFor g).1.o.val), .int .i64 ((resetFor g).1.o.echo), .string ((resetFor g).1.body)], .bool ((resetFor g).2)]) ∧ Below w.heap.size w w' := by
  refine x_calls (args := [.agg (segL g).toArray]) (fn := Try.f24) [] Try.func24 rfl Try.ntmps24 rfl (by simp) ?_
  refine xw_seq ?_
  refine xw_region ?_
  refine xl_end [1, 2] ⟨[(1, .p 0 0), (2, .p 1 0)], [⟨51, segL g⟩, ⟨51, [.int .i64 0, .int .i64 0, .int .i64 0, .int .i64 0, .int .i64 0, .int .i64 0, .int .i64 0, .int .i64 0, .bool false, .bool false, .int .i64 0, .int .i64 0, .string (⟨#[]⟩ : ByteArray)]⟩], [], []⟩ (by kernel_rfl) ?_
  refine xw_seq ?_
  refine xw_seq ?_
  refine xw_region ?_
  refine xl_call 1 [1, 2, 5] ⟨[(1, .p 0 0), (2, .p 1 0), (5, .v (.agg (segL g).toArray))], [⟨51, segL g⟩, ⟨51, [.int .i64 0, .int .i64 0, .int .i64 0, .int .i64 0, .int .i64 0, .int .i64 0, .int .i64 0, .int .i64 0, .bool false, .bool false, .int .i64 0, .int .i64 0, .string (⟨#[]⟩ : ByteArray)]⟩], [], []⟩ 65 [.agg (segL g).toArray, .int .i64 4] (some 6) (by kernel_rfl) rfl (by kernel_rfl) rfl (by kernel_rfl) (xc_b fun ww hf => sHas_c g.src g.dst g.seq g.ack g.flags g.window g.o.mss g.o.scale g.o.sack g.o.stamp g.o.val g.o.echo g.body 4 ww ) ?_
  intro _
  refine xl_end [1, 2, 6] ⟨[(1, .p 0 0), (2, .p 1 0), (6, .v (.bool (hasF g.flags 4)))], [⟨51, segL g⟩, ⟨51, [.int .i64 0, .int .i64 0, .int .i64 0, .int .i64 0, .int .i64 0, .int .i64 0, .int .i64 0, .int .i64 0, .bool false, .bool false, .int .i64 0, .int .i64 0, .string (⟨#[]⟩ : ByteArray)]⟩], [], []⟩ (by kernel_rfl) ?_
  refine xw_cond (b := hasF g.flags 4) (by kernel_rfl) (fun h1 => ?_) (fun h1 => ?_)
  · skip
    refine xw_seq ?_
    refine xw_region ?_
    refine xl_op 0 [2] ⟨[(2, .p 1 0)], [⟨51, segL g⟩, ⟨51, [.int .i64 0, .int .i64 0, .int .i64 0, .int .i64 0, .int .i64 0, .int .i64 0, .int .i64 0, .int .i64 0, .bool false, .bool false, .int .i64 0, .int .i64 0, .string (⟨#[]⟩ : ByteArray)]⟩], [], []⟩ (.agg #[.int .i64 0, .int .i64 0, .int .i64 0, .int .i64 0, .int .i64 0, .int .i64 0, .int .i64 0, .int .i64 0, .bool false, .bool false, .int .i64 0, .int .i64 0, .string (⟨#[]⟩ : ByteArray)]) (by kernel_rfl) rfl (by kernel_rfl) rfl (fun _ _ _ ww hr => act_build [] hr.1 rfl (by kernel_rfl) (by kernel_rfl) ww) ?_
    refine xl_end [2, 3] ⟨[(2, .p 1 0), (3, .v (.bool false))], [⟨51, segL g⟩, ⟨51, [.int .i64 0, .int .i64 0, .int .i64 0, .int .i64 0, .int .i64 0, .int .i64 0, .int .i64 0, .int .i64 0, .bool false, .bool false, .int .i64 0, .int .i64 0, .string (⟨#[]⟩ : ByteArray)]⟩], [], []⟩ (by kernel_rfl) ?_
    refine xw_ret ?_
    have hmod : resetFor g = ((⟨0, 0, 0, 0, 0, 0, ⟨0, 0, false, false, 0, 0⟩, (⟨#[]⟩ : ByteArray)⟩), false) := by first | rfl | (simp [resetFor, zeroSeg, *]; done) | grind [resetFor, zeroSeg]
    exact ⟨[.agg #[.int .i64 0, .int .i64 0, .int .i64 0, .int .i64 0, .int .i64 0, .int .i64 0, .int .i64 0, .int .i64 0, .bool false, .bool false, .int .i64 0, .int .i64 0, .string (⟨#[]⟩ : ByteArray)], .bool false], by kernel_rfl, fun w' hb hf => by rw [hmod]; exact ⟨rfl, hb⟩⟩
  · skip
    refine xw_skip ?_
    refine xw_seq ?_
    refine xw_join ⟨[(1, .p 0 0), (2, .p 1 0), (4, .p 2 0)], [⟨51, segL g⟩, ⟨51, [.int .i64 0, .int .i64 0, .int .i64 0, .int .i64 0, .int .i64 0, .int .i64 0, .int .i64 0, .int .i64 0, .bool false, .bool false, .int .i64 0, .int .i64 0, .string (⟨#[]⟩ : ByteArray)]⟩, ⟨51, [.int .i64 g.dst, .int .i64 g.src, .int .i64 0, .int .i64 0, .int .i64 0, .int .i64 0, .int .i64 0, .int .i64 (-1), .bool false, .bool false, .int .i64 0, .int .i64 0, .string (⟨#[]⟩ : ByteArray)]⟩], [], []⟩ ?_ ?_
    · skip
      refine xe_region [] (by kernel_rfl) (fun ρ σ => ?_)
      refine xe_take 0 (.p 0 1) ⟨[(8, .p 0 1), (1, .p 0 0), (2, .p 1 0), (6, .v (.bool (hasF g.flags 4)))], [⟨51, segL g⟩, ⟨51, [.int .i64 0, .int .i64 0, .int .i64 0, .int .i64 0, .int .i64 0, .int .i64 0, .int .i64 0, .int .i64 0, .bool false, .bool false, .int .i64 0, .int .i64 0, .string (⟨#[]⟩ : ByteArray)]⟩], [], []⟩ rfl (by kernel_rfl) (by kernel_rfl) (by kernel_rfl) (fun _ _ h => h) (by kernel_rfl) (by kernel_rfl) rfl (by kernel_rfl) ?_
      refine xe_take 1 (.v (.int .i64 g.dst)) ⟨[(9, .v (.int .i64 g.dst)), (8, .p 0 1), (1, .p 0 0), (2, .p 1 0), (6, .v (.bool (hasF g.flags 4)))], [⟨51, segL g⟩, ⟨51, [.int .i64 0, .int .i64 0, .int .i64 0, .int .i64 0, .int .i64 0, .int .i64 0, .int .i64 0, .int .i64 0, .bool false, .bool false, .int .i64 0, .int .i64 0, .string (⟨#[]⟩ : ByteArray)]⟩], [], []⟩ rfl (by kernel_rfl) (by kernel_rfl) (by kernel_rfl) (fun _ _ h => h) (by kernel_rfl) (by kernel_rfl) rfl (by kernel_rfl) ?_
      refine xe_take 2 (.p 0 0) ⟨[(10, .p 0 0), (9, .v (.int .i64 g.dst)), (8, .p 0 1), (1, .p 0 0), (2, .p 1 0), (6, .v (.bool (hasF g.flags 4)))], [⟨51, segL g⟩, ⟨51, [.int .i64 0, .int .i64 0, .int .i64 0, .int .i64 0, .int .i64 0, .int .i64 0, .int .i64 0, .int .i64 0, .bool false, .bool false, .int .i64 0, .int .i64 0, .string (⟨#[]⟩ : ByteArray)]⟩], [], []⟩ rfl (by kernel_rfl) (by kernel_rfl) (by kernel_rfl) (fun _ _ h => h) (by kernel_rfl) (by kernel_rfl) rfl (by kernel_rfl) ?_
      refine xe_take 3 (.v (.int .i64 g.src)) ⟨[(11, .v (.int .i64 g.src)), (10, .p 0 0), (9, .v (.int .i64 g.dst)), (8, .p 0 1), (1, .p 0 0), (2, .p 1 0), (6, .v (.bool (hasF g.flags 4)))], [⟨51, segL g⟩, ⟨51, [.int .i64 0, .int .i64 0, .int .i64 0, .int .i64 0, .int .i64 0, .int .i64 0, .int .i64 0, .int .i64 0, .bool false, .bool false, .int .i64 0, .int .i64 0, .string (⟨#[]⟩ : ByteArray)]⟩], [], []⟩ rfl (by kernel_rfl) (by kernel_rfl) (by kernel_rfl) (fun _ _ h => h) (by kernel_rfl) (by kernel_rfl) rfl (by kernel_rfl) ?_
      refine xe_all [4, 6] (by kernel_rfl) (by simp) ⟨?_, ?_⟩
      · skip
        refine xs_call 4 77 [] (some 12) rfl (by kernel_rfl) rfl (by kernel_rfl) (xc_b fun ww hf => sNoOptions_c  ww ) ?_
        intro _
        refine xe_op 5 (.agg #[.int .i64 g.dst, .int .i64 g.src, .int .i64 0, .int .i64 0, .int .i64 0, .int .i64 0, .int .i64 0, .int .i64 (-1), .bool false, .bool false, .int .i64 0, .int .i64 0, .string (⟨#[]⟩ : ByteArray)]) ⟨[(13, .v (.agg #[.int .i64 g.dst, .int .i64 g.src, .int .i64 0, .int .i64 0, .int .i64 0, .int .i64 0, .int .i64 0, .int .i64 (-1), .bool false, .bool false, .int .i64 0, .int .i64 0, .string (⟨#[]⟩ : ByteArray)])), (12, .v (.agg #[.int .i64 0, .int .i64 (-1), .bool false, .bool false, .int .i64 0, .int .i64 0])), (11, .v (.int .i64 g.src)), (10, .p 0 0), (9, .v (.int .i64 g.dst)), (8, .p 0 1), (1, .p 0 0), (2, .p 1 0), (6, .v (.bool (hasF g.flags 4)))], [⟨51, segL g⟩, ⟨51, [.int .i64 0, .int .i64 0, .int .i64 0, .int .i64 0, .int .i64 0, .int .i64 0, .int .i64 0, .int .i64 0, .bool false, .bool false, .int .i64 0, .int .i64 0, .string (⟨#[]⟩ : ByteArray)]⟩], [], []⟩ rfl (by kernel_rfl) (by kernel_rfl) (by kernel_rfl) (fun _ _ h => h) (by kernel_rfl) rfl (fun _ _ ww hA => act_build [(0, .int .i64 g.dst), (1, .int .i64 g.src), (6, .agg #[.int .i64 0, .int .i64 (-1), .bool false, .bool false, .int .i64 0, .int .i64 0])] hA rfl (by kernel_rfl) (by kernel_rfl) ww) (by kernel_rfl) ?_
        refine xe_all [6] (by kernel_rfl) (by simp) ?_
        refine xs_box 6 ⟨51, [.int .i64 0, .int .i64 0, .int .i64 0, .int .i64 0, .int .i64 0, .int .i64 0, .int .i64 0, .int .i64 0, .bool false, .bool false, .int .i64 0, .int .i64 0, .string (⟨#[]⟩ : ByteArray)]⟩ ⟨[(4, .p 2 0), (13, .v (.agg #[.int .i64 g.dst, .int .i64 g.src, .int .i64 0, .int .i64 0, .int .i64 0, .int .i64 0, .int .i64 0, .int .i64 (-1), .bool false, .bool false, .int .i64 0, .int .i64 0, .string (⟨#[]⟩ : ByteArray)])), (12, .v (.agg #[.int .i64 0, .int .i64 (-1), .bool false, .bool false, .int .i64 0, .int .i64 0])), (11, .v (.int .i64 g.src)), (10, .p 0 0), (9, .v (.int .i64 g.dst)), (8, .p 0 1), (1, .p 0 0), (2, .p 1 0), (6, .v (.bool (hasF g.flags 4)))], [⟨51, segL g⟩, ⟨51, [.int .i64 0, .int .i64 0, .int .i64 0, .int .i64 0, .int .i64 0, .int .i64 0, .int .i64 0, .int .i64 0, .bool false, .bool false, .int .i64 0, .int .i64 0, .string (⟨#[]⟩ : ByteArray)]⟩, ⟨51, [.int .i64 0, .int .i64 0, .int .i64 0, .int .i64 0, .int .i64 0, .int .i64 0, .int .i64 0, .int .i64 0, .bool false, .bool false, .int .i64 0, .int .i64 0, .string (⟨#[]⟩ : ByteArray)]⟩], [], []⟩ rfl (by kernel_rfl) (by kernel_rfl) (by kernel_rfl) (by kernel_rfl) (by kernel_rfl) ?_
        refine xe_all [7] (by kernel_rfl) (by simp) ?_
        refine xs_store 7 2 0 [.int .i64 g.dst, .int .i64 g.src, .int .i64 0, .int .i64 0, .int .i64 0, .int .i64 0, .int .i64 0, .int .i64 (-1), .bool false, .bool false, .int .i64 0, .int .i64 0, .string (⟨#[]⟩ : ByteArray)] ⟨[(4, .p 2 0), (13, .v (.agg #[.int .i64 g.dst, .int .i64 g.src, .int .i64 0, .int .i64 0, .int .i64 0, .int .i64 0, .int .i64 0, .int .i64 (-1), .bool false, .bool false, .int .i64 0, .int .i64 0, .string (⟨#[]⟩ : ByteArray)])), (12, .v (.agg #[.int .i64 0, .int .i64 (-1), .bool false, .bool false, .int .i64 0, .int .i64 0])), (11, .v (.int .i64 g.src)), (10, .p 0 0), (9, .v (.int .i64 g.dst)), (8, .p 0 1), (1, .p 0 0), (2, .p 1 0), (6, .v (.bool (hasF g.flags 4)))], [⟨51, segL g⟩, ⟨51, [.int .i64 0, .int .i64 0, .int .i64 0, .int .i64 0, .int .i64 0, .int .i64 0, .int .i64 0, .int .i64 0, .bool false, .bool false, .int .i64 0, .int .i64 0, .string (⟨#[]⟩ : ByteArray)]⟩, ⟨51, [.int .i64 g.dst, .int .i64 g.src, .int .i64 0, .int .i64 0, .int .i64 0, .int .i64 0, .int .i64 0, .int .i64 (-1), .bool false, .bool false, .int .i64 0, .int .i64 0, .string (⟨#[]⟩ : ByteArray)]⟩], [], []⟩ rfl (by kernel_rfl) (by kernel_rfl) (by kernel_rfl) (by kernel_rfl) (by first | exact .inr rfl | exact .inl rfl) (by kernel_rfl) (by kernel_rfl) ?_
        refine xe_done (by kernel_rfl) ?_
        exact wk_forget 3 0 [1, 2, 4] (by kernel_rfl) (by kernel_rfl) (by kernel_rfl)
      · skip
        refine xs_box 6 ⟨51, [.int .i64 0, .int .i64 0, .int .i64 0, .int .i64 0, .int .i64 0, .int .i64 0, .int .i64 0, .int .i64 0, .bool false, .bool false, .int .i64 0, .int .i64 0, .string (⟨#[]⟩ : ByteArray)]⟩ ⟨[(4, .p 2 0), (11, .v (.int .i64 g.src)), (10, .p 0 0), (9, .v (.int .i64 g.dst)), (8, .p 0 1), (1, .p 0 0), (2, .p 1 0), (6, .v (.bool (hasF g.flags 4)))], [⟨51, segL g⟩, ⟨51, [.int .i64 0, .int .i64 0, .int .i64 0, .int .i64 0, .int .i64 0, .int .i64 0, .int .i64 0, .int .i64 0, .bool false, .bool false, .int .i64 0, .int .i64 0, .string (⟨#[]⟩ : ByteArray)]⟩, ⟨51, [.int .i64 0, .int .i64 0, .int .i64 0, .int .i64 0, .int .i64 0, .int .i64 0, .int .i64 0, .int .i64 0, .bool false, .bool false, .int .i64 0, .int .i64 0, .string (⟨#[]⟩ : ByteArray)]⟩], [], []⟩ rfl (by kernel_rfl) (by kernel_rfl) (by kernel_rfl) (by kernel_rfl) (by kernel_rfl) ?_
        refine xe_all [4] (by kernel_rfl) (by simp) ?_
        refine xs_call 4 77 [] (some 12) rfl (by kernel_rfl) rfl (by kernel_rfl) (xc_b fun ww hf => sNoOptions_c  ww ) ?_
        intro _
        refine xe_op 5 (.agg #[.int .i64 g.dst, .int .i64 g.src, .int .i64 0, .int .i64 0, .int .i64 0, .int .i64 0, .int .i64 0, .int .i64 (-1), .bool false, .bool false, .int .i64 0, .int .i64 0, .string (⟨#[]⟩ : ByteArray)]) ⟨[(13, .v (.agg #[.int .i64 g.dst, .int .i64 g.src, .int .i64 0, .int .i64 0, .int .i64 0, .int .i64 0, .int .i64 0, .int .i64 (-1), .bool false, .bool false, .int .i64 0, .int .i64 0, .string (⟨#[]⟩ : ByteArray)])), (12, .v (.agg #[.int .i64 0, .int .i64 (-1), .bool false, .bool false, .int .i64 0, .int .i64 0])), (4, .p 2 0), (11, .v (.int .i64 g.src)), (10, .p 0 0), (9, .v (.int .i64 g.dst)), (8, .p 0 1), (1, .p 0 0), (2, .p 1 0), (6, .v (.bool (hasF g.flags 4)))], [⟨51, segL g⟩, ⟨51, [.int .i64 0, .int .i64 0, .int .i64 0, .int .i64 0, .int .i64 0, .int .i64 0, .int .i64 0, .int .i64 0, .bool false, .bool false, .int .i64 0, .int .i64 0, .string (⟨#[]⟩ : ByteArray)]⟩, ⟨51, [.int .i64 0, .int .i64 0, .int .i64 0, .int .i64 0, .int .i64 0, .int .i64 0, .int .i64 0, .int .i64 0, .bool false, .bool false, .int .i64 0, .int .i64 0, .string (⟨#[]⟩ : ByteArray)]⟩], [], []⟩ rfl (by kernel_rfl) (by kernel_rfl) (by kernel_rfl) (fun _ _ h => h) (by kernel_rfl) rfl (fun _ _ ww hA => act_build [(0, .int .i64 g.dst), (1, .int .i64 g.src), (6, .agg #[.int .i64 0, .int .i64 (-1), .bool false, .bool false, .int .i64 0, .int .i64 0])] hA rfl (by kernel_rfl) (by kernel_rfl) ww) (by kernel_rfl) ?_
        refine xe_all [7] (by kernel_rfl) (by simp) ?_
        refine xs_store 7 2 0 [.int .i64 g.dst, .int .i64 g.src, .int .i64 0, .int .i64 0, .int .i64 0, .int .i64 0, .int .i64 0, .int .i64 (-1), .bool false, .bool false, .int .i64 0, .int .i64 0, .string (⟨#[]⟩ : ByteArray)] ⟨[(13, .v (.agg #[.int .i64 g.dst, .int .i64 g.src, .int .i64 0, .int .i64 0, .int .i64 0, .int .i64 0, .int .i64 0, .int .i64 (-1), .bool false, .bool false, .int .i64 0, .int .i64 0, .string (⟨#[]⟩ : ByteArray)])), (12, .v (.agg #[.int .i64 0, .int .i64 (-1), .bool false, .bool false, .int .i64 0, .int .i64 0])), (4, .p 2 0), (11, .v (.int .i64 g.src)), (10, .p 0 0), (9, .v (.int .i64 g.dst)), (8, .p 0 1), (1, .p 0 0), (2, .p 1 0), (6, .v (.bool (hasF g.flags 4)))], [⟨51, segL g⟩, ⟨51, [.int .i64 0, .int .i64 0, .int .i64 0, .int .i64 0, .int .i64 0, .int .i64 0, .int .i64 0, .int .i64 0, .bool false, .bool false, .int .i64 0, .int .i64 0, .string (⟨#[]⟩ : ByteArray)]⟩, ⟨51, [.int .i64 g.dst, .int .i64 g.src, .int .i64 0, .int .i64 0, .int .i64 0, .int .i64 0, .int .i64 0, .int .i64 (-1), .bool false, .bool false, .int .i64 0, .int .i64 0, .string (⟨#[]⟩ : ByteArray)]⟩], [], []⟩ rfl (by kernel_rfl) (by kernel_rfl) (by kernel_rfl) (by kernel_rfl) (by first | exact .inr rfl | exact .inl rfl) (by kernel_rfl) (by kernel_rfl) ?_
        refine xe_done (by kernel_rfl) ?_
        exact wk_forget 3 0 [1, 2, 4] (by kernel_rfl) (by kernel_rfl) (by kernel_rfl)
    · skip
      refine xw_seq ?_
      refine xw_seq ?_
      refine xw_region ?_
      refine xl_call 1 [1, 2, 4, 14] ⟨[(1, .p 0 0), (2, .p 1 0), (4, .p 2 0), (14, .v (.agg (segL g).toArray))], [⟨51, segL g⟩, ⟨51, [.int .i64 0, .int .i64 0, .int .i64 0, .int .i64 0, .int .i64 0, .int .i64 0, .int .i64 0, .int .i64 0, .bool false, .bool false, .int .i64 0, .int .i64 0, .string (⟨#[]⟩ : ByteArray)]⟩, ⟨51, [.int .i64 g.dst, .int .i64 g.src, .int .i64 0, .int .i64 0, .int .i64 0, .int .i64 0, .int .i64 0, .int .i64 (-1), .bool false, .bool false, .int .i64 0, .int .i64 0, .string (⟨#[]⟩ : ByteArray)]⟩], [], []⟩ 65 [.agg (segL g).toArray, .int .i64 16] (some 15) (by kernel_rfl) rfl (by kernel_rfl) rfl (by kernel_rfl) (xc_b fun ww hf => sHas_c g.src g.dst g.seq g.ack g.flags g.window g.o.mss g.o.scale g.o.sack g.o.stamp g.o.val g.o.echo g.body 16 ww ) ?_
      intro _
      refine xl_end [1, 2, 4, 15] ⟨[(1, .p 0 0), (2, .p 1 0), (4, .p 2 0), (15, .v (.bool (hasF g.flags 16)))], [⟨51, segL g⟩, ⟨51, [.int .i64 0, .int .i64 0, .int .i64 0, .int .i64 0, .int .i64 0, .int .i64 0, .int .i64 0, .int .i64 0, .bool false, .bool false, .int .i64 0, .int .i64 0, .string (⟨#[]⟩ : ByteArray)]⟩, ⟨51, [.int .i64 g.dst, .int .i64 g.src, .int .i64 0, .int .i64 0, .int .i64 0, .int .i64 0, .int .i64 0, .int .i64 (-1), .bool false, .bool false, .int .i64 0, .int .i64 0, .string (⟨#[]⟩ : ByteArray)]⟩], [], []⟩ (by kernel_rfl) ?_
      refine xw_cond (b := hasF g.flags 16) (by kernel_rfl) (fun h2 => ?_) (fun h2 => ?_)
      · skip
        refine xw_seq ?_
        refine xw_region ?_
        refine xl_end [1, 2, 4] ⟨[(1, .p 0 0), (2, .p 1 0), (4, .p 2 0)], [⟨51, segL g⟩, ⟨51, [.int .i64 0, .int .i64 0, .int .i64 0, .int .i64 0, .int .i64 0, .int .i64 0, .int .i64 0, .int .i64 0, .bool false, .bool false, .int .i64 0, .int .i64 0, .string (⟨#[]⟩ : ByteArray)]⟩, ⟨51, [.int .i64 g.dst, .int .i64 g.src, .int .i64 0, .int .i64 0, .int .i64 4, .int .i64 0, .int .i64 0, .int .i64 (-1), .bool false, .bool false, .int .i64 0, .int .i64 0, .string (⟨#[]⟩ : ByteArray)]⟩], [], []⟩ (by kernel_rfl) ?_
        refine xw_region ?_
        refine xl_end [2, 4] ⟨[(2, .p 1 0), (4, .p 2 0)], [⟨51, segL g⟩, ⟨51, [.int .i64 0, .int .i64 0, .int .i64 0, .int .i64 0, .int .i64 0, .int .i64 0, .int .i64 0, .int .i64 0, .bool false, .bool false, .int .i64 0, .int .i64 0, .string (⟨#[]⟩ : ByteArray)]⟩, ⟨51, [.int .i64 g.dst, .int .i64 g.src, .int .i64 g.ack, .int .i64 0, .int .i64 4, .int .i64 0, .int .i64 0, .int .i64 (-1), .bool false, .bool false, .int .i64 0, .int .i64 0, .string (⟨#[]⟩ : ByteArray)]⟩], [], []⟩ (by kernel_rfl) ?_
        refine xw_seq ?_
        refine xw_region ?_
        refine xl_end [2, 3] ⟨[(2, .p 1 0), (3, .v (.bool true))], [⟨51, segL g⟩, ⟨51, [.int .i64 g.dst, .int .i64 g.src, .int .i64 g.ack, .int .i64 0, .int .i64 4, .int .i64 0, .int .i64 0, .int .i64 (-1), .bool false, .bool false, .int .i64 0, .int .i64 0, .string (⟨#[]⟩ : ByteArray)]⟩, ⟨51, [.int .i64 g.dst, .int .i64 g.src, .int .i64 g.ack, .int .i64 0, .int .i64 4, .int .i64 0, .int .i64 0, .int .i64 (-1), .bool false, .bool false, .int .i64 0, .int .i64 0, .string (⟨#[]⟩ : ByteArray)]⟩], [], []⟩ (by kernel_rfl) ?_
        refine xw_ret ?_
        have hmod : resetFor g = ((⟨g.dst, g.src, g.ack, 0, 4, 0, ⟨0, (-1), false, false, 0, 0⟩, (⟨#[]⟩ : ByteArray)⟩), true) := by first | rfl | (simp [resetFor, zeroSeg, *]; done) | grind [resetFor, zeroSeg]
        exact ⟨[.agg #[.int .i64 g.dst, .int .i64 g.src, .int .i64 g.ack, .int .i64 0, .int .i64 4, .int .i64 0, .int .i64 0, .int .i64 (-1), .bool false, .bool false, .int .i64 0, .int .i64 0, .string (⟨#[]⟩ : ByteArray)], .bool true], by kernel_rfl, fun w' hb hf => by rw [hmod]; exact ⟨rfl, hb⟩⟩
      · skip
        refine xw_seq ?_
        refine xw_region ?_
        refine xl_end [1, 2, 4] ⟨[(1, .p 0 0), (2, .p 1 0), (4, .p 2 0)], [⟨51, segL g⟩, ⟨51, [.int .i64 0, .int .i64 0, .int .i64 0, .int .i64 0, .int .i64 0, .int .i64 0, .int .i64 0, .int .i64 0, .bool false, .bool false, .int .i64 0, .int .i64 0, .string (⟨#[]⟩ : ByteArray)]⟩, ⟨51, [.int .i64 g.dst, .int .i64 g.src, .int .i64 0, .int .i64 0, .int .i64 20, .int .i64 0, .int .i64 0, .int .i64 (-1), .bool false, .bool false, .int .i64 0, .int .i64 0, .string (⟨#[]⟩ : ByteArray)]⟩], [], []⟩ (by kernel_rfl) ?_
        refine xe_region [true, true, false] (by kernel_rfl) (fun ρ σ => ?_)
        refine xe_take 0 (.p 0 2) ⟨[(21, .p 0 2), (1, .p 0 0), (2, .p 1 0), (4, .p 2 0)], [⟨51, segL g⟩, ⟨51, [.int .i64 0, .int .i64 0, .int .i64 0, .int .i64 0, .int .i64 0, .int .i64 0, .int .i64 0, .int .i64 0, .bool false, .bool false, .int .i64 0, .int .i64 0, .string (⟨#[]⟩ : ByteArray)]⟩, ⟨51, [.int .i64 g.dst, .int .i64 g.src, .int .i64 0, .int .i64 0, .int .i64 20, .int .i64 0, .int .i64 0, .int .i64 (-1), .bool false, .bool false, .int .i64 0, .int .i64 0, .string (⟨#[]⟩ : ByteArray)]⟩], [], []⟩ rfl (by kernel_rfl) (by kernel_rfl) (by kernel_rfl) (fun _ _ h => h) (by kernel_rfl) (by kernel_rfl) rfl (by kernel_rfl) ?_
        refine xe_take 1 (.v (.int .i64 g.seq)) ⟨[(22, .v (.int .i64 g.seq)), (21, .p 0 2), (1, .p 0 0), (2, .p 1 0), (4, .p 2 0)], [⟨51, segL g⟩, ⟨51, [.int .i64 0, .int .i64 0, .int .i64 0, .int .i64 0, .int .i64 0, .int .i64 0, .int .i64 0, .int .i64 0, .bool false, .bool false, .int .i64 0, .int .i64 0, .string (⟨#[]⟩ : ByteArray)]⟩, ⟨51, [.int .i64 g.dst, .int .i64 g.src, .int .i64 0, .int .i64 0, .int .i64 20, .int .i64 0, .int .i64 0, .int .i64 (-1), .bool false, .bool false, .int .i64 0, .int .i64 0, .string (⟨#[]⟩ : ByteArray)]⟩], [], []⟩ rfl (by kernel_rfl) (by kernel_rfl) (by kernel_rfl) (fun _ _ h => h) (by kernel_rfl) (by kernel_rfl) rfl (by kernel_rfl) ?_
        refine xe_take 2 (.v (.agg (segL g).toArray)) ⟨[(23, .v (.agg (segL g).toArray)), (22, .v (.int .i64 g.seq)), (21, .p 0 2), (1, .p 0 0), (2, .p 1 0), (4, .p 2 0)], [⟨51, segL g⟩, ⟨51, [.int .i64 0, .int .i64 0, .int .i64 0, .int .i64 0, .int .i64 0, .int .i64 0, .int .i64 0, .int .i64 0, .bool false, .bool false, .int .i64 0, .int .i64 0, .string (⟨#[]⟩ : ByteArray)]⟩, ⟨51, [.int .i64 g.dst, .int .i64 g.src, .int .i64 0, .int .i64 0, .int .i64 20, .int .i64 0, .int .i64 0, .int .i64 (-1), .bool false, .bool false, .int .i64 0, .int .i64 0, .string (⟨#[]⟩ : ByteArray)]⟩], [], []⟩ rfl (by kernel_rfl) (by kernel_rfl) (by kernel_rfl) (fun _ _ h => h) (by kernel_rfl) (by kernel_rfl) rfl (by kernel_rfl) ?_
        refine xe_all [3] (by kernel_rfl) (by simp) ?_
        refine xs_call 3 79 [.agg (segL g).toArray] (some 24) rfl (by kernel_rfl) rfl (by kernel_rfl) (xc_b fun ww hf => sSegmentLen_c g.src g.dst g.seq g.ack g.flags g.window g.o.mss g.o.scale g.o.sack g.o.stamp g.o.val g.o.echo g.body ww (by omega)) ?_
        intro _
        refine xe_all [4] (by kernel_rfl) (by simp) ?_
        refine xs_call 4 78 [.int .i64 g.seq, .int .i64 (segLen g)] (some 25) rfl (by kernel_rfl) rfl (by kernel_rfl) (xc_s fun ww hf => sSeqAdd_c g.seq (segLen g) ww ) ?_
        intro _
        refine xe_take 5 (.p 2 3) ⟨[(26, .p 2 3), (25, .v (.int .i64 (seqAdd g.seq (segLen g)))), (24, .v (.int .i64 (segLen g))), (23, .v (.agg (segL g).toArray)), (22, .v (.int .i64 g.seq)), (21, .p 0 2), (1, .p 0 0), (2, .p 1 0), (4, .p 2 0)], [⟨51, segL g⟩, ⟨51, [.int .i64 0, .int .i64 0, .int .i64 0, .int .i64 0, .int .i64 0, .int .i64 0, .int .i64 0, .int .i64 0, .bool false, .bool false, .int .i64 0, .int .i64 0, .string (⟨#[]⟩ : ByteArray)]⟩, ⟨51, [.int .i64 g.dst, .int .i64 g.src, .int .i64 0, .int .i64 0, .int .i64 20, .int .i64 0, .int .i64 0, .int .i64 (-1), .bool false, .bool false, .int .i64 0, .int .i64 0, .string (⟨#[]⟩ : ByteArray)]⟩], [], []⟩ rfl (by kernel_rfl) (by kernel_rfl) (by kernel_rfl) (fun _ _ h => h) (by kernel_rfl) (by kernel_rfl) rfl (by kernel_rfl) ?_
        refine xe_all [6] (by kernel_rfl) (by simp) ?_
        refine xs_store 6 2 3 [.int .i64 (seqAdd g.seq (segLen g))] ⟨[(26, .p 2 3), (25, .v (.int .i64 (seqAdd g.seq (segLen g)))), (24, .v (.int .i64 (segLen g))), (23, .v (.agg (segL g).toArray)), (22, .v (.int .i64 g.seq)), (21, .p 0 2), (1, .p 0 0), (2, .p 1 0), (4, .p 2 0)], [⟨51, segL g⟩, ⟨51, [.int .i64 0, .int .i64 0, .int .i64 0, .int .i64 0, .int .i64 0, .int .i64 0, .int .i64 0, .int .i64 0, .bool false, .bool false, .int .i64 0, .int .i64 0, .string (⟨#[]⟩ : ByteArray)]⟩, ⟨51, [.int .i64 g.dst, .int .i64 g.src, .int .i64 0, .int .i64 (seqAdd g.seq (segLen g)), .int .i64 20, .int .i64 0, .int .i64 0, .int .i64 (-1), .bool false, .bool false, .int .i64 0, .int .i64 0, .string (⟨#[]⟩ : ByteArray)]⟩], [], []⟩ rfl (by kernel_rfl) (by kernel_rfl) (by kernel_rfl) (by kernel_rfl) (by first | exact .inr rfl | exact .inl rfl) (by kernel_rfl) (by kernel_rfl) ?_
        refine xe_done (by kernel_rfl) ?_
        refine xw_seq ?_
        refine xw_region ?_
        refine xl_end [2, 3] ⟨[(2, .p 1 0), (3, .v (.bool true))], [⟨51, segL g⟩, ⟨51, [.int .i64 g.dst, .int .i64 g.src, .int .i64 0, .int .i64 (seqAdd g.seq (segLen g)), .int .i64 20, .int .i64 0, .int .i64 0, .int .i64 (-1), .bool false, .bool false, .int .i64 0, .int .i64 0, .string (⟨#[]⟩ : ByteArray)]⟩, ⟨51, [.int .i64 g.dst, .int .i64 g.src, .int .i64 0, .int .i64 (seqAdd g.seq (segLen g)), .int .i64 20, .int .i64 0, .int .i64 0, .int .i64 (-1), .bool false, .bool false, .int .i64 0, .int .i64 0, .string (⟨#[]⟩ : ByteArray)]⟩], [], []⟩ (by kernel_rfl) ?_
        refine xw_ret ?_
        have hmod : resetFor g = ((⟨g.dst, g.src, 0, seqAdd g.seq (segLen g), 20, 0, ⟨0, (-1), false, false, 0, 0⟩, (⟨#[]⟩ : ByteArray)⟩), true) := by first | rfl | (simp [resetFor, zeroSeg, *]; done) | grind [resetFor, zeroSeg]
        exact ⟨[.agg #[.int .i64 g.dst, .int .i64 g.src, .int .i64 0, .int .i64 (seqAdd g.seq (segLen g)), .int .i64 20, .int .i64 0, .int .i64 0, .int .i64 (-1), .bool false, .bool false, .int .i64 0, .int .i64 0, .string (⟨#[]⟩ : ByteArray)], .bool true], by kernel_rfl, fun w' hb hf => by rw [hmod]; exact ⟨rfl, hb⟩⟩
theorem yiSegmentOk_c (g : Seg) (w : World) (hsz : g.body.size ≤ 4611686018427387904) : Calls Try.prog 71 #[.agg (segL g).toArray] w fun e w' => e = .returned (.bool (segmentOk g)) ∧ Below w.heap.size w w' := by
  refine x_calls (args := [.agg (segL g).toArray]) (fn := Try.f71) [] Try.func71 rfl Try.ntmps71 rfl (by simp) ?_
  refine xw_seq ?_
  refine xw_region ?_
  refine xl_end [1] ⟨[(1, .p 0 0)], [⟨51, segL g⟩], [], []⟩ (by kernel_rfl) ?_
  refine xw_seq ?_
  refine xw_region ?_
  refine xl_call 2 [1, 4] ⟨[(1, .p 0 0), (4, .v (.int .i64 g.src))], [⟨51, segL g⟩], [], []⟩ 90 [.int .i64 g.src, .int .i64 16] (some 5) (by kernel_rfl) rfl (by kernel_rfl) rfl (by kernel_rfl) (xc_s fun ww hf => iWordOk16_c g.src ww) ?_
  intro _
  refine xl_run 1 [1, 6] ⟨[(1, .p 0 0), (6, .v (.bool (wordOk g.src 16)))], [⟨51, segL g⟩], [], []⟩ (by kernel_rfl) ?_
  refine xl_split 6 (b := wordOk g.src 16) (by kernel_rfl) (fun h1 => ?_) (fun h1 => ?_)
  · skip
    refine xl_call 2 [1, 6, 8] ⟨[(1, .p 0 0), (6, .v (.bool true)), (8, .v (.int .i64 g.dst))], [⟨51, segL g⟩], [], []⟩ 90 [.int .i64 g.dst, .int .i64 16] (some 9) (by kernel_rfl) rfl (by kernel_rfl) rfl (by kernel_rfl) (xc_s fun ww hf => iWordOk16_c g.dst ww) ?_
    intro _
    refine xl_run 2 [1, 11] ⟨[(1, .p 0 0), (11, .v (.bool (wordOk g.dst 16)))], [⟨51, segL g⟩], [], []⟩ (by kernel_rfl) ?_
    refine xl_split 11 (b := wordOk g.dst 16) (by kernel_rfl) (fun h2 => ?_) (fun h2 => ?_)
    · skip
      refine xl_call 2 [1, 11, 13] ⟨[(1, .p 0 0), (11, .v (.bool true)), (13, .v (.int .i64 g.window))], [⟨51, segL g⟩], [], []⟩ 90 [.int .i64 g.window, .int .i64 16] (some 14) (by kernel_rfl) rfl (by kernel_rfl) rfl (by kernel_rfl) (xc_s fun ww hf => iWordOk16_c g.window ww) ?_
      intro _
      refine xl_run 2 [1, 16] ⟨[(1, .p 0 0), (16, .v (.bool (wordOk g.window 16)))], [⟨51, segL g⟩], [], []⟩ (by kernel_rfl) ?_
      refine xl_split 16 (b := wordOk g.window 16) (by kernel_rfl) (fun h3 => ?_) (fun h3 => ?_)
      · skip
        refine xl_call 2 [1, 16, 18] ⟨[(1, .p 0 0), (16, .v (.bool true)), (18, .v (.int .i64 g.seq))], [⟨51, segL g⟩], [], []⟩ 90 [.int .i64 g.seq, .int .i64 32] (some 19) (by kernel_rfl) rfl (by kernel_rfl) rfl (by kernel_rfl) (xc_s fun ww hf => iWordOk32_c g.seq ww) ?_
        intro _
        refine xl_run 2 [1, 21] ⟨[(1, .p 0 0), (21, .v (.bool (wordOk g.seq 32)))], [⟨51, segL g⟩], [], []⟩ (by kernel_rfl) ?_
        refine xl_split 21 (b := wordOk g.seq 32) (by kernel_rfl) (fun h4 => ?_) (fun h4 => ?_)
        · skip
          refine xl_call 2 [1, 21, 23] ⟨[(1, .p 0 0), (21, .v (.bool true)), (23, .v (.int .i64 g.ack))], [⟨51, segL g⟩], [], []⟩ 90 [.int .i64 g.ack, .int .i64 32] (some 24) (by kernel_rfl) rfl (by kernel_rfl) rfl (by kernel_rfl) (xc_s fun ww hf => iWordOk32_c g.ack ww) ?_
          intro _
          refine xl_run 2 [1, 26] ⟨[(1, .p 0 0), (26, .v (.bool (wordOk g.ack 32)))], [⟨51, segL g⟩], [], []⟩ (by kernel_rfl) ?_
          refine xl_split 26 (b := wordOk g.ack 32) (by kernel_rfl) (fun h5 => ?_) (fun h5 => ?_)
          · skip
            refine xl_call 2 [1, 26, 28] ⟨[(1, .p 0 0), (26, .v (.bool true)), (28, .v (.int .i64 g.flags))], [⟨51, segL g⟩], [], []⟩ 90 [.int .i64 g.flags, .int .i64 6] (some 29) (by kernel_rfl) rfl (by kernel_rfl) rfl (by kernel_rfl) (xc_s fun ww hf => iWordOk6_c g.flags ww) ?_
            intro _
            refine xl_run 2 [1, 31] ⟨[(1, .p 0 0), (31, .v (.bool (wordOk g.flags 6)))], [⟨51, segL g⟩], [], []⟩ (by kernel_rfl) ?_
            refine xl_split 31 (b := wordOk g.flags 6) (by kernel_rfl) (fun h6 => ?_) (fun h6 => ?_)
            · skip
              refine xl_call 2 [1, 31, 33] ⟨[(1, .p 0 0), (31, .v (.bool true)), (33, .v (.agg (optL g.o).toArray))], [⟨51, segL g⟩], [], []⟩ 91 [.agg (optL g.o).toArray] (some 34) (by kernel_rfl) rfl (by kernel_rfl) rfl (by kernel_rfl) (xc_b fun ww hf => iOptionsOk_c g.o.mss g.o.scale g.o.sack g.o.stamp g.o.val g.o.echo ww ) ?_
              intro _
              refine xl_run 2 [1, 36] ⟨[(1, .p 0 0), (36, .v (.bool (optionsOk g.o)))], [⟨51, segL g⟩], [], []⟩ (by kernel_rfl) ?_
              refine xl_split 36 (b := optionsOk g.o) (by kernel_rfl) (fun h7 => ?_) (fun h7 => ?_)
              · skip
                refine xl_end [2] ⟨[(2, .v (.bool (decide ((g.body.size : Int) ≤ 1420))))], [⟨51, segL g⟩], [], []⟩ (by kernel_rfl) ?_
                refine xw_ret ?_
                exact ⟨[.bool (decide ((g.body.size : Int) ≤ 1420))], by kernel_rfl, fun w' hb hf => ⟨ret_bool (show (decide ((g.body.size : Int) ≤ 1420) : Bool) = segmentOk g from by first | rfl | (simp [segmentOk, *]; done) | (simp [segmentOk, *]; omega) | grind [toList_lit0, segmentOk]), hb⟩⟩
              · skip
                refine xl_end [2] ⟨[(2, .v (.bool false))], [⟨51, segL g⟩], [], []⟩ (by kernel_rfl) ?_
                refine xw_ret ?_
                exact ⟨[.bool false], by kernel_rfl, fun w' hb hf => ⟨ret_bool (show (false : Bool) = segmentOk g from by first | rfl | (simp [segmentOk, *]; done) | (simp [segmentOk, *]; omega) | grind [toList_lit0, segmentOk]), hb⟩⟩
            · skip
              refine xl_end [2] ⟨[(2, .v (.bool false))], [⟨51, segL g⟩], [], []⟩ (by kernel_rfl) ?_
              refine xw_ret ?_
              exact ⟨[.bool false], by kernel_rfl, fun w' hb hf => ⟨ret_bool (show (false : Bool) = segmentOk g from by first | rfl | (simp [segmentOk, *]; done) | (simp [segmentOk, *]; omega) | grind [toList_lit0, segmentOk]), hb⟩⟩
          · skip
            refine xl_end [2] ⟨[(2, .v (.bool false))], [⟨51, segL g⟩], [], []⟩ (by kernel_rfl) ?_
            refine xw_ret ?_
            exact ⟨[.bool false], by kernel_rfl, fun w' hb hf => ⟨ret_bool (show (false : Bool) = segmentOk g from by first | rfl | (simp [segmentOk, *]; done) | (simp [segmentOk, *]; omega) | grind [toList_lit0, segmentOk]), hb⟩⟩
        · skip
          refine xl_end [2] ⟨[(2, .v (.bool false))], [⟨51, segL g⟩], [], []⟩ (by kernel_rfl) ?_
          refine xw_ret ?_
          exact ⟨[.bool false], by kernel_rfl, fun w' hb hf => ⟨ret_bool (show (false : Bool) = segmentOk g from by first | rfl | (simp [segmentOk, *]; done) | (simp [segmentOk, *]; omega) | grind [toList_lit0, segmentOk]), hb⟩⟩
      · skip
        refine xl_end [2] ⟨[(2, .v (.bool false))], [⟨51, segL g⟩], [], []⟩ (by kernel_rfl) ?_
        refine xw_ret ?_
        exact ⟨[.bool false], by kernel_rfl, fun w' hb hf => ⟨ret_bool (show (false : Bool) = segmentOk g from by first | rfl | (simp [segmentOk, *]; done) | (simp [segmentOk, *]; omega) | grind [toList_lit0, segmentOk]), hb⟩⟩
    · skip
      refine xl_end [2] ⟨[(2, .v (.bool false))], [⟨51, segL g⟩], [], []⟩ (by kernel_rfl) ?_
      refine xw_ret ?_
      exact ⟨[.bool false], by kernel_rfl, fun w' hb hf => ⟨ret_bool (show (false : Bool) = segmentOk g from by first | rfl | (simp [segmentOk, *]; done) | (simp [segmentOk, *]; omega) | grind [toList_lit0, segmentOk]), hb⟩⟩
  · skip
    refine xl_end [2] ⟨[(2, .v (.bool false))], [⟨51, segL g⟩], [], []⟩ (by kernel_rfl) ?_
    refine xw_ret ?_
    exact ⟨[.bool false], by kernel_rfl, fun w' hb hf => ⟨ret_bool (show (false : Bool) = segmentOk g from by first | rfl | (simp [segmentOk, *]; done) | (simp [segmentOk, *]; omega) | grind [toList_lit0, segmentOk]), hb⟩⟩
theorem yiVerdict_c (c : Con) (c_r_heldV : Value) (g : Seg) (w : World) (hl_c_r_heldV : Sl w c_r_heldV 2 (c.r.held.map pceCells)) (hgz : g.body.size ≤ 1048576) (hm : ∀ p ∈ c.r.held, p.text.size ≤ 1048576) (hsz : c.r.data.size ≤ 4611686018427387904) : Calls Try.prog 23 #[.agg (conL c c_r_heldV).toArray, .agg (segL g).toArray] w fun e w' => e = .returned (.int .i64 (verdict c g)) ∧ Below w.heap.size w w' := by
  obtain ⟨ra_c_r_heldV, rc_c_r_heldV, hv_c_r_heldV⟩ := hl_c_r_heldV.form
  rw [List.length_map] at hv_c_r_heldV; subst hv_c_r_heldV
  have hn_c_r_heldV := hl_c_r_heldV.len; rw [List.length_map] at hn_c_r_heldV
  refine x_calls (args := [.agg (conL c (.slice ra_c_r_heldV c.r.held.length rc_c_r_heldV)).toArray, .agg (segL g).toArray]) (fn := Try.f23) [slF (.slice ra_c_r_heldV c.r.held.length rc_c_r_heldV) 2 (c.r.held.map pceCells)] Try.func23 rfl Try.ntmps23 rfl (by simp only [List.mem_cons, List.not_mem_nil, or_false, forall_eq_or_imp, forall_eq]; exact ⟨rfl, hl_c_r_heldV⟩) ?_
  refine xw_seq ?_
  refine xw_region ?_
  refine xl_end [2, 3] ⟨[(2, .p 0 0), (3, .p 1 0)], [⟨42, conL c (.slice ra_c_r_heldV c.r.held.length rc_c_r_heldV)⟩, ⟨51, segL g⟩], [], [slF (.slice ra_c_r_heldV c.r.held.length rc_c_r_heldV) 2 (c.r.held.map pceCells)]⟩ (by kernel_rfl) ?_
  refine xw_seq ?_
  refine xw_seq ?_
  refine xw_region ?_
  refine xl_call 1 [2, 3, 5] ⟨[(2, .p 0 0), (3, .p 1 0), (5, .v (.agg (conL c (.slice ra_c_r_heldV c.r.held.length rc_c_r_heldV)).toArray))], [⟨42, conL c (.slice ra_c_r_heldV c.r.held.length rc_c_r_heldV)⟩, ⟨51, segL g⟩], [], [slF (.slice ra_c_r_heldV c.r.held.length rc_c_r_heldV) 2 (c.r.held.map pceCells)]⟩ 70 [.agg (conL c (.slice ra_c_r_heldV c.r.held.length rc_c_r_heldV)).toArray] (some 6) (by kernel_rfl) rfl (by kernel_rfl) rfl (by kernel_rfl) (xc_b fun ww hf => yiConnOk_c c (.slice ra_c_r_heldV c.r.held.length rc_c_r_heldV) ww (hf (slF (.slice ra_c_r_heldV c.r.held.length rc_c_r_heldV) 2 (c.r.held.map pceCells)) (by simp)) (by assumption) (by omega)) ?_
  intro _
  refine xl_run 2 [2, 3, 8] ⟨[(2, .p 0 0), (3, .p 1 0), (8, .v (.bool (!(conOk c))))], [⟨42, conL c (.slice ra_c_r_heldV c.r.held.length rc_c_r_heldV)⟩, ⟨51, segL g⟩], [], [slF (.slice ra_c_r_heldV c.r.held.length rc_c_r_heldV) 2 (c.r.held.map pceCells)]⟩ (by kernel_rfl) ?_
  refine xl_split 8 (b := !(conOk c)) (by kernel_rfl) (fun h1 => ?_) (fun h1 => ?_)
  · skip
    refine xl_end [2, 3, 17] ⟨[(2, .p 0 0), (3, .p 1 0), (17, .v (.bool true))], [⟨42, conL c (.slice ra_c_r_heldV c.r.held.length rc_c_r_heldV)⟩, ⟨51, segL g⟩], [], [slF (.slice ra_c_r_heldV c.r.held.length rc_c_r_heldV) 2 (c.r.held.map pceCells)]⟩ (by kernel_rfl) ?_
    refine xw_true (by kernel_rfl) ?_
    refine xw_seq ?_
    refine xw_region ?_
    refine xl_end [4] ⟨[(4, .v (.int .i64 1))], [⟨42, conL c (.slice ra_c_r_heldV c.r.held.length rc_c_r_heldV)⟩, ⟨51, segL g⟩], [], [slF (.slice ra_c_r_heldV c.r.held.length rc_c_r_heldV) 2 (c.r.held.map pceCells)]⟩ (by kernel_rfl) ?_
    refine xw_ret ?_
    have hmod : verdict c g = 1 := by first | rfl | (simp [verdict, *]; done) | grind [verdict]
    exact ⟨[.int .i64 1], by kernel_rfl, fun w' hb hf => by rw [hmod]; exact ⟨rfl, hb⟩⟩
  · skip
    refine xl_run 5 [2, 3, 13] ⟨[(2, .p 0 0), (3, .p 1 0), (13, .v (.bool (c.state == 8)))], [⟨42, conL c (.slice ra_c_r_heldV c.r.held.length rc_c_r_heldV)⟩, ⟨51, segL g⟩], [], [slF (.slice ra_c_r_heldV c.r.held.length rc_c_r_heldV) 2 (c.r.held.map pceCells)]⟩ (by kernel_rfl) ?_
    refine xl_split 13 (b := c.state == 8) (by kernel_rfl) (fun h2 => ?_) (fun h2 => ?_)
    · skip
      have h2p := h2; simp only [beq_iff_eq, bne_iff_ne, beq_eq_false_iff_ne, bne_eq_false_iff_eq, ne_eq, toList_lit0] at h2p
      refine xl_end [2, 3, 17] ⟨[(2, .p 0 0), (3, .p 1 0), (17, .v (.bool true))], [⟨42, conL c (.slice ra_c_r_heldV c.r.held.length rc_c_r_heldV)⟩, ⟨51, segL g⟩], [], [slF (.slice ra_c_r_heldV c.r.held.length rc_c_r_heldV) 2 (c.r.held.map pceCells)]⟩ (by kernel_rfl) ?_
      refine xw_true (by kernel_rfl) ?_
      refine xw_seq ?_
      refine xw_region ?_
      refine xl_end [4] ⟨[(4, .v (.int .i64 1))], [⟨42, conL c (.slice ra_c_r_heldV c.r.held.length rc_c_r_heldV)⟩, ⟨51, segL g⟩], [], [slF (.slice ra_c_r_heldV c.r.held.length rc_c_r_heldV) 2 (c.r.held.map pceCells)]⟩ (by kernel_rfl) ?_
      refine xw_ret ?_
      have hmod : verdict c g = 1 := by first | rfl | (simp [verdict, *]; done) | grind [verdict]
      exact ⟨[.int .i64 1], by kernel_rfl, fun w' hb hf => by rw [hmod]; exact ⟨rfl, hb⟩⟩
    · skip
      have h2p := h2; simp only [beq_iff_eq, bne_iff_ne, beq_eq_false_iff_ne, bne_eq_false_iff_eq, ne_eq, toList_lit0] at h2p
      refine xl_call 1 [2, 3, 13, 14] ⟨[(2, .p 0 0), (3, .p 1 0), (13, .v (.bool false)), (14, .v (.agg (segL g).toArray))], [⟨42, conL c (.slice ra_c_r_heldV c.r.held.length rc_c_r_heldV)⟩, ⟨51, segL g⟩], [], [slF (.slice ra_c_r_heldV c.r.held.length rc_c_r_heldV) 2 (c.r.held.map pceCells)]⟩ 71 [.agg (segL g).toArray] (some 15) (by kernel_rfl) rfl (by kernel_rfl) rfl (by kernel_rfl) (xc_b fun ww hf => yiSegmentOk_c g ww (by omega)) ?_
      intro _
      refine xl_end [2, 3, 17] ⟨[(2, .p 0 0), (3, .p 1 0), (17, .v (.bool (!(segmentOk g))))], [⟨42, conL c (.slice ra_c_r_heldV c.r.held.length rc_c_r_heldV)⟩, ⟨51, segL g⟩], [], [slF (.slice ra_c_r_heldV c.r.held.length rc_c_r_heldV) 2 (c.r.held.map pceCells)]⟩ (by kernel_rfl) ?_
      refine xw_cond (b := !(segmentOk g)) (by kernel_rfl) (fun h3 => ?_) (fun h3 => ?_)
      · skip
        refine xw_seq ?_
        refine xw_region ?_
        refine xl_end [4] ⟨[(4, .v (.int .i64 1))], [⟨42, conL c (.slice ra_c_r_heldV c.r.held.length rc_c_r_heldV)⟩, ⟨51, segL g⟩], [], [slF (.slice ra_c_r_heldV c.r.held.length rc_c_r_heldV) 2 (c.r.held.map pceCells)]⟩ (by kernel_rfl) ?_
        refine xw_ret ?_
        have hmod : verdict c g = 1 := by first | rfl | (simp [verdict, *]; done) | grind [verdict]
        exact ⟨[.int .i64 1], by kernel_rfl, fun w' hb hf => by rw [hmod]; exact ⟨rfl, hb⟩⟩
      · skip
        refine xw_skip ?_
        refine xw_seq ?_
        refine xw_seq ?_
        refine xw_region ?_
        refine xl_call 1 [2, 3, 18] ⟨[(2, .p 0 0), (3, .p 1 0), (18, .v (.agg (segL g).toArray))], [⟨42, conL c (.slice ra_c_r_heldV c.r.held.length rc_c_r_heldV)⟩, ⟨51, segL g⟩], [], [slF (.slice ra_c_r_heldV c.r.held.length rc_c_r_heldV) 2 (c.r.held.map pceCells)]⟩ 72 [.agg (segL g).toArray, .int .i64 4] (some 19) (by kernel_rfl) rfl (by kernel_rfl) rfl (by kernel_rfl) (xc_b fun ww hf => iHas_c g.src g.dst g.seq g.ack g.flags g.window g.o.mss g.o.scale g.o.sack g.o.stamp g.o.val g.o.echo g.body 4 ww ) ?_
        intro _
        refine xl_end [2, 3, 19] ⟨[(2, .p 0 0), (3, .p 1 0), (19, .v (.bool (hasF g.flags 4)))], [⟨42, conL c (.slice ra_c_r_heldV c.r.held.length rc_c_r_heldV)⟩, ⟨51, segL g⟩], [], [slF (.slice ra_c_r_heldV c.r.held.length rc_c_r_heldV) 2 (c.r.held.map pceCells)]⟩ (by kernel_rfl) ?_
        refine xw_cond (b := hasF g.flags 4) (by kernel_rfl) (fun h4 => ?_) (fun h4 => ?_)
        · skip
          refine xw_seq ?_
          refine xw_block ?_
          refine xw_seq ?_
          refine xw_region ?_
          refine xl_end [2, 3, 20] ⟨[(2, .p 0 0), (3, .p 1 0), (20, .v (.bool (g.seq == c.r.next)))], [⟨42, conL c (.slice ra_c_r_heldV c.r.held.length rc_c_r_heldV)⟩, ⟨51, segL g⟩], [], [slF (.slice ra_c_r_heldV c.r.held.length rc_c_r_heldV) 2 (c.r.held.map pceCells)]⟩ (by kernel_rfl) ?_
          refine xw_cond (b := g.seq == c.r.next) (by kernel_rfl) (fun h5 => ?_) (fun h5 => ?_)
          · skip
            have h5p := h5; simp only [beq_iff_eq, bne_iff_ne, beq_eq_false_iff_ne, bne_eq_false_iff_eq, ne_eq, toList_lit0] at h5p
            refine xw_seq ?_
            refine xw_region ?_
            refine xl_end [4] ⟨[(4, .v (.int .i64 2))], [⟨42, conL c (.slice ra_c_r_heldV c.r.held.length rc_c_r_heldV)⟩, ⟨51, segL g⟩], [], [slF (.slice ra_c_r_heldV c.r.held.length rc_c_r_heldV) 2 (c.r.held.map pceCells)]⟩ (by kernel_rfl) ?_
            refine xw_ret ?_
            have hmod : verdict c g = 2 := by first | rfl | (simp [verdict, *]; done) | grind [verdict]
            exact ⟨[.int .i64 2], by kernel_rfl, fun w' hb hf => by rw [hmod]; exact ⟨rfl, hb⟩⟩
          · skip
            have h5p := h5; simp only [beq_iff_eq, bne_iff_ne, beq_eq_false_iff_ne, bne_eq_false_iff_eq, ne_eq, toList_lit0] at h5p
            refine xw_seq ?_
            refine xe_region [] (by kernel_rfl) (fun ρ σ => ?_)
            refine xe_take 0 (.p 1 2) ⟨[(28, .p 1 2), (2, .p 0 0), (3, .p 1 0), (20, .v (.bool (g.seq == c.r.next)))], [⟨42, conL c (.slice ra_c_r_heldV c.r.held.length rc_c_r_heldV)⟩, ⟨51, segL g⟩], [], [slF (.slice ra_c_r_heldV c.r.held.length rc_c_r_heldV) 2 (c.r.held.map pceCells)]⟩ rfl (by kernel_rfl) (by kernel_rfl) (by kernel_rfl) (fun _ _ h => h) (by kernel_rfl) (by kernel_rfl) rfl (by kernel_rfl) ?_
            refine xe_take 1 (.v (.int .i64 g.seq)) ⟨[(29, .v (.int .i64 g.seq)), (28, .p 1 2), (2, .p 0 0), (3, .p 1 0), (20, .v (.bool (g.seq == c.r.next)))], [⟨42, conL c (.slice ra_c_r_heldV c.r.held.length rc_c_r_heldV)⟩, ⟨51, segL g⟩], [], [slF (.slice ra_c_r_heldV c.r.held.length rc_c_r_heldV) 2 (c.r.held.map pceCells)]⟩ rfl (by kernel_rfl) (by kernel_rfl) (by kernel_rfl) (fun _ _ h => h) (by kernel_rfl) (by kernel_rfl) rfl (by kernel_rfl) ?_
            refine xe_take 2 (.p 0 10) ⟨[(30, .p 0 10), (29, .v (.int .i64 g.seq)), (28, .p 1 2), (2, .p 0 0), (3, .p 1 0), (20, .v (.bool (g.seq == c.r.next)))], [⟨42, conL c (.slice ra_c_r_heldV c.r.held.length rc_c_r_heldV)⟩, ⟨51, segL g⟩], [], [slF (.slice ra_c_r_heldV c.r.held.length rc_c_r_heldV) 2 (c.r.held.map pceCells)]⟩ rfl (by kernel_rfl) (by kernel_rfl) (by kernel_rfl) (fun _ _ h => h) (by kernel_rfl) (by kernel_rfl) rfl (by kernel_rfl) ?_
            refine xe_take 3 (.p 0 10) ⟨[(31, .p 0 10), (30, .p 0 10), (29, .v (.int .i64 g.seq)), (28, .p 1 2), (2, .p 0 0), (3, .p 1 0), (20, .v (.bool (g.seq == c.r.next)))], [⟨42, conL c (.slice ra_c_r_heldV c.r.held.length rc_c_r_heldV)⟩, ⟨51, segL g⟩], [], [slF (.slice ra_c_r_heldV c.r.held.length rc_c_r_heldV) 2 (c.r.held.map pceCells)]⟩ rfl (by kernel_rfl) (by kernel_rfl) (by kernel_rfl) (fun _ _ h => h) (by kernel_rfl) (by kernel_rfl) rfl (by kernel_rfl) ?_
            refine xe_take 4 (.v (.int .i64 c.r.next)) ⟨[(32, .v (.int .i64 c.r.next)), (31, .p 0 10), (30, .p 0 10), (29, .v (.int .i64 g.seq)), (28, .p 1 2), (2, .p 0 0), (3, .p 1 0), (20, .v (.bool (g.seq == c.r.next)))], [⟨42, conL c (.slice ra_c_r_heldV c.r.held.length rc_c_r_heldV)⟩, ⟨51, segL g⟩], [], [slF (.slice ra_c_r_heldV c.r.held.length rc_c_r_heldV) 2 (c.r.held.map pceCells)]⟩ rfl (by kernel_rfl) (by kernel_rfl) (by kernel_rfl) (fun _ _ h => h) (by kernel_rfl) (by kernel_rfl) rfl (by kernel_rfl) ?_
            refine xe_take 5 (.p 0 10) ⟨[(33, .p 0 10), (32, .v (.int .i64 c.r.next)), (31, .p 0 10), (30, .p 0 10), (29, .v (.int .i64 g.seq)), (28, .p 1 2), (2, .p 0 0), (3, .p 1 0), (20, .v (.bool (g.seq == c.r.next)))], [⟨42, conL c (.slice ra_c_r_heldV c.r.held.length rc_c_r_heldV)⟩, ⟨51, segL g⟩], [], [slF (.slice ra_c_r_heldV c.r.held.length rc_c_r_heldV) 2 (c.r.held.map pceCells)]⟩ rfl (by kernel_rfl) (by kernel_rfl) (by kernel_rfl) (fun _ _ h => h) (by kernel_rfl) (by kernel_rfl) rfl (by kernel_rfl) ?_
            refine xe_take 6 (.v (.agg (rcvL c.r (.slice ra_c_r_heldV c.r.held.length rc_c_r_heldV)).toArray)) ⟨[(34, .v (.agg (rcvL c.r (.slice ra_c_r_heldV c.r.held.length rc_c_r_heldV)).toArray)), (33, .p 0 10), (32, .v (.int .i64 c.r.next)), (31, .p 0 10), (30, .p 0 10), (29, .v (.int .i64 g.seq)), (28, .p 1 2), (2, .p 0 0), (3, .p 1 0), (20, .v (.bool (g.seq == c.r.next)))], [⟨42, conL c (.slice ra_c_r_heldV c.r.held.length rc_c_r_heldV)⟩, ⟨51, segL g⟩], [], [slF (.slice ra_c_r_heldV c.r.held.length rc_c_r_heldV) 2 (c.r.held.map pceCells)]⟩ rfl (by kernel_rfl) (by kernel_rfl) (by kernel_rfl) (fun _ _ h => h) (by kernel_rfl) (by kernel_rfl) rfl (by kernel_rfl) ?_
            refine xe_all [7] (by kernel_rfl) (by simp) ?_
            refine xs_call 7 74 [.agg (rcvL c.r (.slice ra_c_r_heldV c.r.held.length rc_c_r_heldV)).toArray] (some 35) rfl (by kernel_rfl) rfl (by kernel_rfl) (xc_b fun ww hf => iWindowOf_c c.r.next c.r.data c.r.held (.slice ra_c_r_heldV c.r.held.length rc_c_r_heldV) c.r.fin c.r.done ww (by omega)) ?_
            intro _
            refine xe_all [8] (by kernel_rfl) (by simp) ?_
            refine xs_call 8 73 [.int .i64 g.seq, .int .i64 c.r.next, .int .i64 (windowOf c.r)] (some 36) rfl (by kernel_rfl) rfl (by kernel_rfl) (xc_s fun ww hf => iInWindow_c g.seq c.r.next (windowOf c.r) ww ) ?_
            intro _
            refine xe_take 9 (.v (.bool (inWindow g.seq c.r.next (windowOf c.r)))) ⟨[(27, .v (.bool (inWindow g.seq c.r.next (windowOf c.r)))), (36, .v (.bool (inWindow g.seq c.r.next (windowOf c.r)))), (35, .v (.int .i64 (windowOf c.r))), (34, .v (.agg (rcvL c.r (.slice ra_c_r_heldV c.r.held.length rc_c_r_heldV)).toArray)), (33, .p 0 10), (32, .v (.int .i64 c.r.next)), (31, .p 0 10), (30, .p 0 10), (29, .v (.int .i64 g.seq)), (28, .p 1 2), (2, .p 0 0), (3, .p 1 0), (20, .v (.bool (g.seq == c.r.next)))], [⟨42, conL c (.slice ra_c_r_heldV c.r.held.length rc_c_r_heldV)⟩, ⟨51, segL g⟩], [], [slF (.slice ra_c_r_heldV c.r.held.length rc_c_r_heldV) 2 (c.r.held.map pceCells)]⟩ rfl (by kernel_rfl) (by kernel_rfl) (by kernel_rfl) (fun _ _ h => h) (by kernel_rfl) (by kernel_rfl) rfl (by kernel_rfl) ?_
            refine xe_done (by kernel_rfl) ?_
            refine xw_cond (b := inWindow g.seq c.r.next (windowOf c.r)) (by kernel_rfl) (fun h6 => ?_) (fun h6 => ?_)
            · skip
              refine xw_seq ?_
              refine xw_region ?_
              refine xl_end [4] ⟨[(4, .v (.int .i64 3))], [⟨42, conL c (.slice ra_c_r_heldV c.r.held.length rc_c_r_heldV)⟩, ⟨51, segL g⟩], [], [slF (.slice ra_c_r_heldV c.r.held.length rc_c_r_heldV) 2 (c.r.held.map pceCells)]⟩ (by kernel_rfl) ?_
              refine xw_ret ?_
              have hmod : verdict c g = 3 := by first | rfl | (simp [verdict, *]; done) | grind [verdict]
              exact ⟨[.int .i64 3], by kernel_rfl, fun w' hb hf => by rw [hmod]; exact ⟨rfl, hb⟩⟩
            · skip
              refine xw_skip ?_
              refine xw_seq ?_
              refine xw_region ?_
              refine xl_end [4] ⟨[(4, .v (.int .i64 1))], [⟨42, conL c (.slice ra_c_r_heldV c.r.held.length rc_c_r_heldV)⟩, ⟨51, segL g⟩], [], [slF (.slice ra_c_r_heldV c.r.held.length rc_c_r_heldV) 2 (c.r.held.map pceCells)]⟩ (by kernel_rfl) ?_
              refine xw_ret ?_
              have hmod : verdict c g = 1 := by first | rfl | (simp [verdict, *]; done) | grind [verdict]
              exact ⟨[.int .i64 1], by kernel_rfl, fun w' hb hf => by rw [hmod]; exact ⟨rfl, hb⟩⟩
        · skip
          refine xw_skip ?_
          refine xw_seq ?_
          refine xw_block ?_
          refine xw_seq ?_
          refine xw_region ?_
          refine xl_call 1 [2, 3, 38] ⟨[(2, .p 0 0), (3, .p 1 0), (38, .v (.agg (segL g).toArray))], [⟨42, conL c (.slice ra_c_r_heldV c.r.held.length rc_c_r_heldV)⟩, ⟨51, segL g⟩], [], [slF (.slice ra_c_r_heldV c.r.held.length rc_c_r_heldV) 2 (c.r.held.map pceCells)]⟩ 72 [.agg (segL g).toArray, .int .i64 2] (some 39) (by kernel_rfl) rfl (by kernel_rfl) rfl (by kernel_rfl) (xc_b fun ww hf => iHas_c g.src g.dst g.seq g.ack g.flags g.window g.o.mss g.o.scale g.o.sack g.o.stamp g.o.val g.o.echo g.body 2 ww ) ?_
          intro _
          refine xl_end [2, 3, 37] ⟨[(2, .p 0 0), (3, .p 1 0), (37, .v (.bool (hasF g.flags 2)))], [⟨42, conL c (.slice ra_c_r_heldV c.r.held.length rc_c_r_heldV)⟩, ⟨51, segL g⟩], [], [slF (.slice ra_c_r_heldV c.r.held.length rc_c_r_heldV) 2 (c.r.held.map pceCells)]⟩ (by kernel_rfl) ?_
          refine xw_cond (b := hasF g.flags 2) (by kernel_rfl) (fun h7 => ?_) (fun h7 => ?_)
          · skip
            refine xw_seq ?_
            refine xw_region ?_
            refine xl_end [4] ⟨[(4, .v (.int .i64 3))], [⟨42, conL c (.slice ra_c_r_heldV c.r.held.length rc_c_r_heldV)⟩, ⟨51, segL g⟩], [], [slF (.slice ra_c_r_heldV c.r.held.length rc_c_r_heldV) 2 (c.r.held.map pceCells)]⟩ (by kernel_rfl) ?_
            refine xw_ret ?_
            have hmod : verdict c g = 3 := by first | rfl | (simp [verdict, *]; done) | grind [verdict]
            exact ⟨[.int .i64 3], by kernel_rfl, fun w' hb hf => by rw [hmod]; exact ⟨rfl, hb⟩⟩
          · skip
            refine xw_seq ?_
            refine xw_region ?_
            refine xl_call 2 [2, 3, 41, 42] ⟨[(2, .p 0 0), (3, .p 1 0), (41, .v (.agg (conL c (.slice ra_c_r_heldV c.r.held.length rc_c_r_heldV)).toArray)), (42, .v (.agg (segL g).toArray))], [⟨42, conL c (.slice ra_c_r_heldV c.r.held.length rc_c_r_heldV)⟩, ⟨51, segL g⟩], [], [slF (.slice ra_c_r_heldV c.r.held.length rc_c_r_heldV) 2 (c.r.held.map pceCells)]⟩ 75 [.agg (conL c (.slice ra_c_r_heldV c.r.held.length rc_c_r_heldV)).toArray, .agg (segL g).toArray] (some 43) (by kernel_rfl) rfl (by kernel_rfl) rfl (by kernel_rfl) (xc_b fun ww hf => iAcceptable_c c.t.ip c.t.port c.t.my c.state c.s.una c.s.data c.s.sent c.s.fin c.s.finSent c.s.done c.r.next c.r.data c.r.held (.slice ra_c_r_heldV c.r.held.length rc_c_r_heldV) c.r.fin c.r.done c.window c.most c.o.mss c.o.scale c.o.sack c.o.stamp c.o.val c.o.echo c.timer c.tries g.src g.dst g.seq g.ack g.flags g.window g.o.mss g.o.scale g.o.sack g.o.stamp g.o.val g.o.echo g.body ww (by omega) (by omega)) ?_
            intro _
            refine xl_end [2, 3, 40] ⟨[(2, .p 0 0), (3, .p 1 0), (40, .v (.bool (!(acceptable c g))))], [⟨42, conL c (.slice ra_c_r_heldV c.r.held.length rc_c_r_heldV)⟩, ⟨51, segL g⟩], [], [slF (.slice ra_c_r_heldV c.r.held.length rc_c_r_heldV) 2 (c.r.held.map pceCells)]⟩ (by kernel_rfl) ?_
            refine xw_cond (b := !(acceptable c g)) (by kernel_rfl) (fun h8 => ?_) (fun h8 => ?_)
            · skip
              refine xw_seq ?_
              refine xw_region ?_
              refine xl_end [4] ⟨[(4, .v (.int .i64 4))], [⟨42, conL c (.slice ra_c_r_heldV c.r.held.length rc_c_r_heldV)⟩, ⟨51, segL g⟩], [], [slF (.slice ra_c_r_heldV c.r.held.length rc_c_r_heldV) 2 (c.r.held.map pceCells)]⟩ (by kernel_rfl) ?_
              refine xw_ret ?_
              have hmod : verdict c g = 4 := by first | rfl | (simp [verdict, *]; done) | grind [verdict]
              exact ⟨[.int .i64 4], by kernel_rfl, fun w' hb hf => by rw [hmod]; exact ⟨rfl, hb⟩⟩
            · skip
              refine xw_seq ?_
              refine xw_region ?_
              refine xl_call 1 [2, 3, 46] ⟨[(2, .p 0 0), (3, .p 1 0), (46, .v (.agg (segL g).toArray))], [⟨42, conL c (.slice ra_c_r_heldV c.r.held.length rc_c_r_heldV)⟩, ⟨51, segL g⟩], [], [slF (.slice ra_c_r_heldV c.r.held.length rc_c_r_heldV) 2 (c.r.held.map pceCells)]⟩ 72 [.agg (segL g).toArray, .int .i64 16] (some 47) (by kernel_rfl) rfl (by kernel_rfl) rfl (by kernel_rfl) (xc_b fun ww hf => iHas_c g.src g.dst g.seq g.ack g.flags g.window g.o.mss g.o.scale g.o.sack g.o.stamp g.o.val g.o.echo g.body 16 ww ) ?_
              intro _
              refine xl_end [2, 3, 45] ⟨[(2, .p 0 0), (3, .p 1 0), (45, .v (.bool (!(hasF g.flags 16))))], [⟨42, conL c (.slice ra_c_r_heldV c.r.held.length rc_c_r_heldV)⟩, ⟨51, segL g⟩], [], [slF (.slice ra_c_r_heldV c.r.held.length rc_c_r_heldV) 2 (c.r.held.map pceCells)]⟩ (by kernel_rfl) ?_
              refine xw_cond (b := !(hasF g.flags 16)) (by kernel_rfl) (fun h9 => ?_) (fun h9 => ?_)
              · skip
                refine xw_seq ?_
                refine xw_region ?_
                refine xl_end [4] ⟨[(4, .v (.int .i64 1))], [⟨42, conL c (.slice ra_c_r_heldV c.r.held.length rc_c_r_heldV)⟩, ⟨51, segL g⟩], [], [slF (.slice ra_c_r_heldV c.r.held.length rc_c_r_heldV) 2 (c.r.held.map pceCells)]⟩ (by kernel_rfl) ?_
                refine xw_ret ?_
                have hmod : verdict c g = 1 := by first | rfl | (simp [verdict, *]; done) | grind [verdict]
                exact ⟨[.int .i64 1], by kernel_rfl, fun w' hb hf => by rw [hmod]; exact ⟨rfl, hb⟩⟩
              · skip
                refine xw_seq ?_
                refine xw_region ?_
                refine xl_call 3 [50, 52] ⟨[(50, .v (.agg (conL c (.slice ra_c_r_heldV c.r.held.length rc_c_r_heldV)).toArray)), (52, .v (.int .i64 g.ack))], [⟨42, conL c (.slice ra_c_r_heldV c.r.held.length rc_c_r_heldV)⟩, ⟨51, segL g⟩], [], [slF (.slice ra_c_r_heldV c.r.held.length rc_c_r_heldV) 2 (c.r.held.map pceCells)]⟩ 76 [.agg (conL c (.slice ra_c_r_heldV c.r.held.length rc_c_r_heldV)).toArray, .int .i64 g.ack] (some 53) (by kernel_rfl) rfl (by kernel_rfl) rfl (by kernel_rfl) (xc_b fun ww hf => iAckFits_c c.t.ip c.t.port c.t.my c.state c.s.una c.s.data c.s.sent c.s.fin c.s.finSent c.s.done c.r.next c.r.data c.r.held (.slice ra_c_r_heldV c.r.held.length rc_c_r_heldV) c.r.fin c.r.done c.window c.most c.o.mss c.o.scale c.o.sack c.o.stamp c.o.val c.o.echo c.timer c.tries g.ack ww ) ?_
                intro _
                refine xl_end [49] ⟨[(49, .v (.bool (!(ackFits c g.ack))))], [⟨42, conL c (.slice ra_c_r_heldV c.r.held.length rc_c_r_heldV)⟩, ⟨51, segL g⟩], [], [slF (.slice ra_c_r_heldV c.r.held.length rc_c_r_heldV) 2 (c.r.held.map pceCells)]⟩ (by kernel_rfl) ?_
                refine xw_cond (b := !(ackFits c g.ack)) (by kernel_rfl) (fun h10 => ?_) (fun h10 => ?_)
                · skip
                  refine xw_seq ?_
                  refine xw_region ?_
                  refine xl_end [4] ⟨[(4, .v (.int .i64 3))], [⟨42, conL c (.slice ra_c_r_heldV c.r.held.length rc_c_r_heldV)⟩, ⟨51, segL g⟩], [], [slF (.slice ra_c_r_heldV c.r.held.length rc_c_r_heldV) 2 (c.r.held.map pceCells)]⟩ (by kernel_rfl) ?_
                  refine xw_ret ?_
                  have hmod : verdict c g = 3 := by first | rfl | (simp [verdict, *]; done) | grind [verdict]
                  exact ⟨[.int .i64 3], by kernel_rfl, fun w' hb hf => by rw [hmod]; exact ⟨rfl, hb⟩⟩
                · skip
                  refine xw_skip ?_
                  refine xw_seq ?_
                  refine xw_region ?_
                  refine xl_end [4] ⟨[(4, .v (.int .i64 5))], [⟨42, conL c (.slice ra_c_r_heldV c.r.held.length rc_c_r_heldV)⟩, ⟨51, segL g⟩], [], [slF (.slice ra_c_r_heldV c.r.held.length rc_c_r_heldV) 2 (c.r.held.map pceCells)]⟩ (by kernel_rfl) ?_
                  refine xw_ret ?_
                  have hmod : verdict c g = 5 := by first | rfl | (simp [verdict, *]; done) | grind [verdict]
                  exact ⟨[.int .i64 5], by kernel_rfl, fun w' hb hf => by rw [hmod]; exact ⟨rfl, hb⟩⟩
theorem yiResetFor_c (g : Seg) (w : World) (hgz : g.body.size ≤ 1048576) : Calls Try.prog 25 #[.agg (segL g).toArray] w fun e w' => e = .returned (.tuple #[.agg #[.int .i64 ((resetFor g).1.src), .int .i64 ((resetFor g).1.dst), .int .i64 ((resetFor g).1.seq), .int .i64 ((resetFor g).1.ack), .int .i64 ((resetFor g).1.flags), .int .i64 ((resetFor g).1.window), .int .i64 ((resetFor g).1.o.mss), .int .i64 ((resetFor g).1.o.scale), .bool ((resetFor g).1.o.sack), .bool ((resetFor g).1.o.stamp), .int .i64 ((resetFor g).1.o.val), .int .i64 ((resetFor g).1.o.echo), .string ((resetFor g).1.body)], .bool ((resetFor g).2)]) ∧ Below w.heap.size w w' := by
  refine x_calls (args := [.agg (segL g).toArray]) (fn := Try.f25) [] Try.func25 rfl Try.ntmps25 rfl (by simp) ?_
  refine xw_seq ?_
  refine xw_region ?_
  refine xl_end [1, 2] ⟨[(1, .p 0 0), (2, .p 1 0)], [⟨51, segL g⟩, ⟨51, [.int .i64 0, .int .i64 0, .int .i64 0, .int .i64 0, .int .i64 0, .int .i64 0, .int .i64 0, .int .i64 0, .bool false, .bool false, .int .i64 0, .int .i64 0, .string (⟨#[]⟩ : ByteArray)]⟩], [], []⟩ (by kernel_rfl) ?_
  refine xw_seq ?_
  refine xw_seq ?_
  refine xw_region ?_
  refine xl_call 1 [1, 2, 5] ⟨[(1, .p 0 0), (2, .p 1 0), (5, .v (.agg (segL g).toArray))], [⟨51, segL g⟩, ⟨51, [.int .i64 0, .int .i64 0, .int .i64 0, .int .i64 0, .int .i64 0, .int .i64 0, .int .i64 0, .int .i64 0, .bool false, .bool false, .int .i64 0, .int .i64 0, .string (⟨#[]⟩ : ByteArray)]⟩], [], []⟩ 72 [.agg (segL g).toArray, .int .i64 4] (some 6) (by kernel_rfl) rfl (by kernel_rfl) rfl (by kernel_rfl) (xc_b fun ww hf => iHas_c g.src g.dst g.seq g.ack g.flags g.window g.o.mss g.o.scale g.o.sack g.o.stamp g.o.val g.o.echo g.body 4 ww ) ?_
  intro _
  refine xl_end [1, 2, 6] ⟨[(1, .p 0 0), (2, .p 1 0), (6, .v (.bool (hasF g.flags 4)))], [⟨51, segL g⟩, ⟨51, [.int .i64 0, .int .i64 0, .int .i64 0, .int .i64 0, .int .i64 0, .int .i64 0, .int .i64 0, .int .i64 0, .bool false, .bool false, .int .i64 0, .int .i64 0, .string (⟨#[]⟩ : ByteArray)]⟩], [], []⟩ (by kernel_rfl) ?_
  refine xw_cond (b := hasF g.flags 4) (by kernel_rfl) (fun h1 => ?_) (fun h1 => ?_)
  · skip
    refine xw_seq ?_
    refine xw_region ?_
    refine xl_op 0 [2] ⟨[(2, .p 1 0)], [⟨51, segL g⟩, ⟨51, [.int .i64 0, .int .i64 0, .int .i64 0, .int .i64 0, .int .i64 0, .int .i64 0, .int .i64 0, .int .i64 0, .bool false, .bool false, .int .i64 0, .int .i64 0, .string (⟨#[]⟩ : ByteArray)]⟩], [], []⟩ (.agg #[.int .i64 0, .int .i64 0, .int .i64 0, .int .i64 0, .int .i64 0, .int .i64 0, .int .i64 0, .int .i64 0, .bool false, .bool false, .int .i64 0, .int .i64 0, .string (⟨#[]⟩ : ByteArray)]) (by kernel_rfl) rfl (by kernel_rfl) rfl (fun _ _ _ ww hr => act_build [] hr.1 rfl (by kernel_rfl) (by kernel_rfl) ww) ?_
    refine xl_end [2, 3] ⟨[(2, .p 1 0), (3, .v (.bool false))], [⟨51, segL g⟩, ⟨51, [.int .i64 0, .int .i64 0, .int .i64 0, .int .i64 0, .int .i64 0, .int .i64 0, .int .i64 0, .int .i64 0, .bool false, .bool false, .int .i64 0, .int .i64 0, .string (⟨#[]⟩ : ByteArray)]⟩], [], []⟩ (by kernel_rfl) ?_
    refine xw_ret ?_
    have hmod : resetFor g = ((⟨0, 0, 0, 0, 0, 0, ⟨0, 0, false, false, 0, 0⟩, (⟨#[]⟩ : ByteArray)⟩), false) := by first | rfl | (simp [resetFor, zeroSeg, *]; done) | grind [resetFor, zeroSeg]
    exact ⟨[.agg #[.int .i64 0, .int .i64 0, .int .i64 0, .int .i64 0, .int .i64 0, .int .i64 0, .int .i64 0, .int .i64 0, .bool false, .bool false, .int .i64 0, .int .i64 0, .string (⟨#[]⟩ : ByteArray)], .bool false], by kernel_rfl, fun w' hb hf => by rw [hmod]; exact ⟨rfl, hb⟩⟩
  · skip
    refine xw_skip ?_
    refine xw_seq ?_
    refine xw_join ⟨[(1, .p 0 0), (2, .p 1 0), (4, .p 2 0)], [⟨51, segL g⟩, ⟨51, [.int .i64 0, .int .i64 0, .int .i64 0, .int .i64 0, .int .i64 0, .int .i64 0, .int .i64 0, .int .i64 0, .bool false, .bool false, .int .i64 0, .int .i64 0, .string (⟨#[]⟩ : ByteArray)]⟩, ⟨51, [.int .i64 g.dst, .int .i64 g.src, .int .i64 0, .int .i64 0, .int .i64 4, .int .i64 0, .int .i64 0, .int .i64 (-1), .bool false, .bool false, .int .i64 0, .int .i64 0, .string (⟨#[]⟩ : ByteArray)]⟩], [], []⟩ ?_ ?_
    · skip
      refine xe_region [] (by kernel_rfl) (fun ρ σ => ?_)
      refine xe_take 0 (.p 0 1) ⟨[(8, .p 0 1), (1, .p 0 0), (2, .p 1 0), (6, .v (.bool (hasF g.flags 4)))], [⟨51, segL g⟩, ⟨51, [.int .i64 0, .int .i64 0, .int .i64 0, .int .i64 0, .int .i64 0, .int .i64 0, .int .i64 0, .int .i64 0, .bool false, .bool false, .int .i64 0, .int .i64 0, .string (⟨#[]⟩ : ByteArray)]⟩], [], []⟩ rfl (by kernel_rfl) (by kernel_rfl) (by kernel_rfl) (fun _ _ h => h) (by kernel_rfl) (by kernel_rfl) rfl (by kernel_rfl) ?_
      refine xe_take 1 (.v (.int .i64 g.dst)) ⟨[(9, .v (.int .i64 g.dst)), (8, .p 0 1), (1, .p 0 0), (2, .p 1 0), (6, .v (.bool (hasF g.flags 4)))], [⟨51, segL g⟩, ⟨51, [.int .i64 0, .int .i64 0, .int .i64 0, .int .i64 0, .int .i64 0, .int .i64 0, .int .i64 0, .int .i64 0, .bool false, .bool false, .int .i64 0, .int .i64 0, .string (⟨#[]⟩ : ByteArray)]⟩], [], []⟩ rfl (by kernel_rfl) (by kernel_rfl) (by kernel_rfl) (fun _ _ h => h) (by kernel_rfl) (by kernel_rfl) rfl (by kernel_rfl) ?_
      refine xe_take 2 (.p 0 0) ⟨[(10, .p 0 0), (9, .v (.int .i64 g.dst)), (8, .p 0 1), (1, .p 0 0), (2, .p 1 0), (6, .v (.bool (hasF g.flags 4)))], [⟨51, segL g⟩, ⟨51, [.int .i64 0, .int .i64 0, .int .i64 0, .int .i64 0, .int .i64 0, .int .i64 0, .int .i64 0, .int .i64 0, .bool false, .bool false, .int .i64 0, .int .i64 0, .string (⟨#[]⟩ : ByteArray)]⟩], [], []⟩ rfl (by kernel_rfl) (by kernel_rfl) (by kernel_rfl) (fun _ _ h => h) (by kernel_rfl) (by kernel_rfl) rfl (by kernel_rfl) ?_
      refine xe_take 3 (.v (.int .i64 g.src)) ⟨[(11, .v (.int .i64 g.src)), (10, .p 0 0), (9, .v (.int .i64 g.dst)), (8, .p 0 1), (1, .p 0 0), (2, .p 1 0), (6, .v (.bool (hasF g.flags 4)))], [⟨51, segL g⟩, ⟨51, [.int .i64 0, .int .i64 0, .int .i64 0, .int .i64 0, .int .i64 0, .int .i64 0, .int .i64 0, .int .i64 0, .bool false, .bool false, .int .i64 0, .int .i64 0, .string (⟨#[]⟩ : ByteArray)]⟩], [], []⟩ rfl (by kernel_rfl) (by kernel_rfl) (by kernel_rfl) (fun _ _ h => h) (by kernel_rfl) (by kernel_rfl) rfl (by kernel_rfl) ?_
      refine xe_all [4, 6] (by kernel_rfl) (by simp) ⟨?_, ?_⟩
      · skip
        refine xs_call 4 80 [] (some 12) rfl (by kernel_rfl) rfl (by kernel_rfl) (xc_b fun ww hf => iNoOptions_c  ww ) ?_
        intro _
        refine xe_op 5 (.agg #[.int .i64 g.dst, .int .i64 g.src, .int .i64 0, .int .i64 0, .int .i64 4, .int .i64 0, .int .i64 0, .int .i64 (-1), .bool false, .bool false, .int .i64 0, .int .i64 0, .string (⟨#[]⟩ : ByteArray)]) ⟨[(13, .v (.agg #[.int .i64 g.dst, .int .i64 g.src, .int .i64 0, .int .i64 0, .int .i64 4, .int .i64 0, .int .i64 0, .int .i64 (-1), .bool false, .bool false, .int .i64 0, .int .i64 0, .string (⟨#[]⟩ : ByteArray)])), (12, .v (.agg #[.int .i64 0, .int .i64 (-1), .bool false, .bool false, .int .i64 0, .int .i64 0])), (11, .v (.int .i64 g.src)), (10, .p 0 0), (9, .v (.int .i64 g.dst)), (8, .p 0 1), (1, .p 0 0), (2, .p 1 0), (6, .v (.bool (hasF g.flags 4)))], [⟨51, segL g⟩, ⟨51, [.int .i64 0, .int .i64 0, .int .i64 0, .int .i64 0, .int .i64 0, .int .i64 0, .int .i64 0, .int .i64 0, .bool false, .bool false, .int .i64 0, .int .i64 0, .string (⟨#[]⟩ : ByteArray)]⟩], [], []⟩ rfl (by kernel_rfl) (by kernel_rfl) (by kernel_rfl) (fun _ _ h => h) (by kernel_rfl) rfl (fun _ _ ww hA => act_build [(0, .int .i64 g.dst), (1, .int .i64 g.src), (4, .int .i64 4), (6, .agg #[.int .i64 0, .int .i64 (-1), .bool false, .bool false, .int .i64 0, .int .i64 0])] hA rfl (by kernel_rfl) (by kernel_rfl) ww) (by kernel_rfl) ?_
        refine xe_all [6] (by kernel_rfl) (by simp) ?_
        refine xs_box 6 ⟨51, [.int .i64 0, .int .i64 0, .int .i64 0, .int .i64 0, .int .i64 0, .int .i64 0, .int .i64 0, .int .i64 0, .bool false, .bool false, .int .i64 0, .int .i64 0, .string (⟨#[]⟩ : ByteArray)]⟩ ⟨[(4, .p 2 0), (13, .v (.agg #[.int .i64 g.dst, .int .i64 g.src, .int .i64 0, .int .i64 0, .int .i64 4, .int .i64 0, .int .i64 0, .int .i64 (-1), .bool false, .bool false, .int .i64 0, .int .i64 0, .string (⟨#[]⟩ : ByteArray)])), (12, .v (.agg #[.int .i64 0, .int .i64 (-1), .bool false, .bool false, .int .i64 0, .int .i64 0])), (11, .v (.int .i64 g.src)), (10, .p 0 0), (9, .v (.int .i64 g.dst)), (8, .p 0 1), (1, .p 0 0), (2, .p 1 0), (6, .v (.bool (hasF g.flags 4)))], [⟨51, segL g⟩, ⟨51, [.int .i64 0, .int .i64 0, .int .i64 0, .int .i64 0, .int .i64 0, .int .i64 0, .int .i64 0, .int .i64 0, .bool false, .bool false, .int .i64 0, .int .i64 0, .string (⟨#[]⟩ : ByteArray)]⟩, ⟨51, [.int .i64 0, .int .i64 0, .int .i64 0, .int .i64 0, .int .i64 0, .int .i64 0, .int .i64 0, .int .i64 0, .bool false, .bool false, .int .i64 0, .int .i64 0, .string (⟨#[]⟩ : ByteArray)]⟩], [], []⟩ rfl (by kernel_rfl) (by kernel_rfl) (by kernel_rfl) (by kernel_rfl) (by kernel_rfl) ?_
        refine xe_all [7] (by kernel_rfl) (by simp) ?_
        refine xs_store 7 2 0 [.int .i64 g.dst, .int .i64 g.src, .int .i64 0, .int .i64 0, .int .i64 4, .int .i64 0, .int .i64 0, .int .i64 (-1), .bool false, .bool false, .int .i64 0, .int .i64 0, .string (⟨#[]⟩ : ByteArray)] ⟨[(4, .p 2 0), (13, .v (.agg #[.int .i64 g.dst, .int .i64 g.src, .int .i64 0, .int .i64 0, .int .i64 4, .int .i64 0, .int .i64 0, .int .i64 (-1), .bool false, .bool false, .int .i64 0, .int .i64 0, .string (⟨#[]⟩ : ByteArray)])), (12, .v (.agg #[.int .i64 0, .int .i64 (-1), .bool false, .bool false, .int .i64 0, .int .i64 0])), (11, .v (.int .i64 g.src)), (10, .p 0 0), (9, .v (.int .i64 g.dst)), (8, .p 0 1), (1, .p 0 0), (2, .p 1 0), (6, .v (.bool (hasF g.flags 4)))], [⟨51, segL g⟩, ⟨51, [.int .i64 0, .int .i64 0, .int .i64 0, .int .i64 0, .int .i64 0, .int .i64 0, .int .i64 0, .int .i64 0, .bool false, .bool false, .int .i64 0, .int .i64 0, .string (⟨#[]⟩ : ByteArray)]⟩, ⟨51, [.int .i64 g.dst, .int .i64 g.src, .int .i64 0, .int .i64 0, .int .i64 4, .int .i64 0, .int .i64 0, .int .i64 (-1), .bool false, .bool false, .int .i64 0, .int .i64 0, .string (⟨#[]⟩ : ByteArray)]⟩], [], []⟩ rfl (by kernel_rfl) (by kernel_rfl) (by kernel_rfl) (by kernel_rfl) (by first | exact .inr rfl | exact .inl rfl) (by kernel_rfl) (by kernel_rfl) ?_
        refine xe_done (by kernel_rfl) ?_
        exact wk_forget 3 0 [1, 2, 4] (by kernel_rfl) (by kernel_rfl) (by kernel_rfl)
      · skip
        refine xs_box 6 ⟨51, [.int .i64 0, .int .i64 0, .int .i64 0, .int .i64 0, .int .i64 0, .int .i64 0, .int .i64 0, .int .i64 0, .bool false, .bool false, .int .i64 0, .int .i64 0, .string (⟨#[]⟩ : ByteArray)]⟩ ⟨[(4, .p 2 0), (11, .v (.int .i64 g.src)), (10, .p 0 0), (9, .v (.int .i64 g.dst)), (8, .p 0 1), (1, .p 0 0), (2, .p 1 0), (6, .v (.bool (hasF g.flags 4)))], [⟨51, segL g⟩, ⟨51, [.int .i64 0, .int .i64 0, .int .i64 0, .int .i64 0, .int .i64 0, .int .i64 0, .int .i64 0, .int .i64 0, .bool false, .bool false, .int .i64 0, .int .i64 0, .string (⟨#[]⟩ : ByteArray)]⟩, ⟨51, [.int .i64 0, .int .i64 0, .int .i64 0, .int .i64 0, .int .i64 0, .int .i64 0, .int .i64 0, .int .i64 0, .bool false, .bool false, .int .i64 0, .int .i64 0, .string (⟨#[]⟩ : ByteArray)]⟩], [], []⟩ rfl (by kernel_rfl) (by kernel_rfl) (by kernel_rfl) (by kernel_rfl) (by kernel_rfl) ?_
        refine xe_all [4] (by kernel_rfl) (by simp) ?_
        refine xs_call 4 80 [] (some 12) rfl (by kernel_rfl) rfl (by kernel_rfl) (xc_b fun ww hf => iNoOptions_c  ww ) ?_
        intro _
        refine xe_op 5 (.agg #[.int .i64 g.dst, .int .i64 g.src, .int .i64 0, .int .i64 0, .int .i64 4, .int .i64 0, .int .i64 0, .int .i64 (-1), .bool false, .bool false, .int .i64 0, .int .i64 0, .string (⟨#[]⟩ : ByteArray)]) ⟨[(13, .v (.agg #[.int .i64 g.dst, .int .i64 g.src, .int .i64 0, .int .i64 0, .int .i64 4, .int .i64 0, .int .i64 0, .int .i64 (-1), .bool false, .bool false, .int .i64 0, .int .i64 0, .string (⟨#[]⟩ : ByteArray)])), (12, .v (.agg #[.int .i64 0, .int .i64 (-1), .bool false, .bool false, .int .i64 0, .int .i64 0])), (4, .p 2 0), (11, .v (.int .i64 g.src)), (10, .p 0 0), (9, .v (.int .i64 g.dst)), (8, .p 0 1), (1, .p 0 0), (2, .p 1 0), (6, .v (.bool (hasF g.flags 4)))], [⟨51, segL g⟩, ⟨51, [.int .i64 0, .int .i64 0, .int .i64 0, .int .i64 0, .int .i64 0, .int .i64 0, .int .i64 0, .int .i64 0, .bool false, .bool false, .int .i64 0, .int .i64 0, .string (⟨#[]⟩ : ByteArray)]⟩, ⟨51, [.int .i64 0, .int .i64 0, .int .i64 0, .int .i64 0, .int .i64 0, .int .i64 0, .int .i64 0, .int .i64 0, .bool false, .bool false, .int .i64 0, .int .i64 0, .string (⟨#[]⟩ : ByteArray)]⟩], [], []⟩ rfl (by kernel_rfl) (by kernel_rfl) (by kernel_rfl) (fun _ _ h => h) (by kernel_rfl) rfl (fun _ _ ww hA => act_build [(0, .int .i64 g.dst), (1, .int .i64 g.src), (4, .int .i64 4), (6, .agg #[.int .i64 0, .int .i64 (-1), .bool false, .bool false, .int .i64 0, .int .i64 0])] hA rfl (by kernel_rfl) (by kernel_rfl) ww) (by kernel_rfl) ?_
        refine xe_all [7] (by kernel_rfl) (by simp) ?_
        refine xs_store 7 2 0 [.int .i64 g.dst, .int .i64 g.src, .int .i64 0, .int .i64 0, .int .i64 4, .int .i64 0, .int .i64 0, .int .i64 (-1), .bool false, .bool false, .int .i64 0, .int .i64 0, .string (⟨#[]⟩ : ByteArray)] ⟨[(13, .v (.agg #[.int .i64 g.dst, .int .i64 g.src, .int .i64 0, .int .i64 0, .int .i64 4, .int .i64 0, .int .i64 0, .int .i64 (-1), .bool false, .bool false, .int .i64 0, .int .i64 0, .string (⟨#[]⟩ : ByteArray)])), (12, .v (.agg #[.int .i64 0, .int .i64 (-1), .bool false, .bool false, .int .i64 0, .int .i64 0])), (4, .p 2 0), (11, .v (.int .i64 g.src)), (10, .p 0 0), (9, .v (.int .i64 g.dst)), (8, .p 0 1), (1, .p 0 0), (2, .p 1 0), (6, .v (.bool (hasF g.flags 4)))], [⟨51, segL g⟩, ⟨51, [.int .i64 0, .int .i64 0, .int .i64 0, .int .i64 0, .int .i64 0, .int .i64 0, .int .i64 0, .int .i64 0, .bool false, .bool false, .int .i64 0, .int .i64 0, .string (⟨#[]⟩ : ByteArray)]⟩, ⟨51, [.int .i64 g.dst, .int .i64 g.src, .int .i64 0, .int .i64 0, .int .i64 4, .int .i64 0, .int .i64 0, .int .i64 (-1), .bool false, .bool false, .int .i64 0, .int .i64 0, .string (⟨#[]⟩ : ByteArray)]⟩], [], []⟩ rfl (by kernel_rfl) (by kernel_rfl) (by kernel_rfl) (by kernel_rfl) (by first | exact .inr rfl | exact .inl rfl) (by kernel_rfl) (by kernel_rfl) ?_
        refine xe_done (by kernel_rfl) ?_
        exact wk_forget 3 0 [1, 2, 4] (by kernel_rfl) (by kernel_rfl) (by kernel_rfl)
    · skip
      refine xw_seq ?_
      refine xw_seq ?_
      refine xw_region ?_
      refine xl_call 1 [1, 2, 4, 14] ⟨[(1, .p 0 0), (2, .p 1 0), (4, .p 2 0), (14, .v (.agg (segL g).toArray))], [⟨51, segL g⟩, ⟨51, [.int .i64 0, .int .i64 0, .int .i64 0, .int .i64 0, .int .i64 0, .int .i64 0, .int .i64 0, .int .i64 0, .bool false, .bool false, .int .i64 0, .int .i64 0, .string (⟨#[]⟩ : ByteArray)]⟩, ⟨51, [.int .i64 g.dst, .int .i64 g.src, .int .i64 0, .int .i64 0, .int .i64 4, .int .i64 0, .int .i64 0, .int .i64 (-1), .bool false, .bool false, .int .i64 0, .int .i64 0, .string (⟨#[]⟩ : ByteArray)]⟩], [], []⟩ 72 [.agg (segL g).toArray, .int .i64 16] (some 15) (by kernel_rfl) rfl (by kernel_rfl) rfl (by kernel_rfl) (xc_b fun ww hf => iHas_c g.src g.dst g.seq g.ack g.flags g.window g.o.mss g.o.scale g.o.sack g.o.stamp g.o.val g.o.echo g.body 16 ww ) ?_
      intro _
      refine xl_end [1, 2, 4, 15] ⟨[(1, .p 0 0), (2, .p 1 0), (4, .p 2 0), (15, .v (.bool (hasF g.flags 16)))], [⟨51, segL g⟩, ⟨51, [.int .i64 0, .int .i64 0, .int .i64 0, .int .i64 0, .int .i64 0, .int .i64 0, .int .i64 0, .int .i64 0, .bool false, .bool false, .int .i64 0, .int .i64 0, .string (⟨#[]⟩ : ByteArray)]⟩, ⟨51, [.int .i64 g.dst, .int .i64 g.src, .int .i64 0, .int .i64 0, .int .i64 4, .int .i64 0, .int .i64 0, .int .i64 (-1), .bool false, .bool false, .int .i64 0, .int .i64 0, .string (⟨#[]⟩ : ByteArray)]⟩], [], []⟩ (by kernel_rfl) ?_
      refine xw_cond (b := hasF g.flags 16) (by kernel_rfl) (fun h2 => ?_) (fun h2 => ?_)
      · skip
        refine xw_region ?_
        refine xl_end [2, 4] ⟨[(2, .p 1 0), (4, .p 2 0)], [⟨51, segL g⟩, ⟨51, [.int .i64 0, .int .i64 0, .int .i64 0, .int .i64 0, .int .i64 0, .int .i64 0, .int .i64 0, .int .i64 0, .bool false, .bool false, .int .i64 0, .int .i64 0, .string (⟨#[]⟩ : ByteArray)]⟩, ⟨51, [.int .i64 g.dst, .int .i64 g.src, .int .i64 g.ack, .int .i64 0, .int .i64 4, .int .i64 0, .int .i64 0, .int .i64 (-1), .bool false, .bool false, .int .i64 0, .int .i64 0, .string (⟨#[]⟩ : ByteArray)]⟩], [], []⟩ (by kernel_rfl) ?_
        refine xw_seq ?_
        refine xw_region ?_
        refine xl_end [2, 3] ⟨[(2, .p 1 0), (3, .v (.bool true))], [⟨51, segL g⟩, ⟨51, [.int .i64 g.dst, .int .i64 g.src, .int .i64 g.ack, .int .i64 0, .int .i64 4, .int .i64 0, .int .i64 0, .int .i64 (-1), .bool false, .bool false, .int .i64 0, .int .i64 0, .string (⟨#[]⟩ : ByteArray)]⟩, ⟨51, [.int .i64 g.dst, .int .i64 g.src, .int .i64 g.ack, .int .i64 0, .int .i64 4, .int .i64 0, .int .i64 0, .int .i64 (-1), .bool false, .bool false, .int .i64 0, .int .i64 0, .string (⟨#[]⟩ : ByteArray)]⟩], [], []⟩ (by kernel_rfl) ?_
        refine xw_ret ?_
        have hmod : resetFor g = ((⟨g.dst, g.src, g.ack, 0, 4, 0, ⟨0, (-1), false, false, 0, 0⟩, (⟨#[]⟩ : ByteArray)⟩), true) := by first | rfl | (simp [resetFor, zeroSeg, *]; done) | grind [resetFor, zeroSeg]
        exact ⟨[.agg #[.int .i64 g.dst, .int .i64 g.src, .int .i64 g.ack, .int .i64 0, .int .i64 4, .int .i64 0, .int .i64 0, .int .i64 (-1), .bool false, .bool false, .int .i64 0, .int .i64 0, .string (⟨#[]⟩ : ByteArray)], .bool true], by kernel_rfl, fun w' hb hf => by rw [hmod]; exact ⟨rfl, hb⟩⟩
      · skip
        refine xw_seq ?_
        refine xw_region ?_
        refine xl_end [1, 2, 4] ⟨[(1, .p 0 0), (2, .p 1 0), (4, .p 2 0)], [⟨51, segL g⟩, ⟨51, [.int .i64 0, .int .i64 0, .int .i64 0, .int .i64 0, .int .i64 0, .int .i64 0, .int .i64 0, .int .i64 0, .bool false, .bool false, .int .i64 0, .int .i64 0, .string (⟨#[]⟩ : ByteArray)]⟩, ⟨51, [.int .i64 g.dst, .int .i64 g.src, .int .i64 0, .int .i64 0, .int .i64 20, .int .i64 0, .int .i64 0, .int .i64 (-1), .bool false, .bool false, .int .i64 0, .int .i64 0, .string (⟨#[]⟩ : ByteArray)]⟩], [], []⟩ (by kernel_rfl) ?_
        refine xe_region [true, true, false] (by kernel_rfl) (fun ρ σ => ?_)
        refine xe_take 0 (.p 0 2) ⟨[(23, .p 0 2), (1, .p 0 0), (2, .p 1 0), (4, .p 2 0)], [⟨51, segL g⟩, ⟨51, [.int .i64 0, .int .i64 0, .int .i64 0, .int .i64 0, .int .i64 0, .int .i64 0, .int .i64 0, .int .i64 0, .bool false, .bool false, .int .i64 0, .int .i64 0, .string (⟨#[]⟩ : ByteArray)]⟩, ⟨51, [.int .i64 g.dst, .int .i64 g.src, .int .i64 0, .int .i64 0, .int .i64 20, .int .i64 0, .int .i64 0, .int .i64 (-1), .bool false, .bool false, .int .i64 0, .int .i64 0, .string (⟨#[]⟩ : ByteArray)]⟩], [], []⟩ rfl (by kernel_rfl) (by kernel_rfl) (by kernel_rfl) (fun _ _ h => h) (by kernel_rfl) (by kernel_rfl) rfl (by kernel_rfl) ?_
        refine xe_take 1 (.v (.int .i64 g.seq)) ⟨[(24, .v (.int .i64 g.seq)), (23, .p 0 2), (1, .p 0 0), (2, .p 1 0), (4, .p 2 0)], [⟨51, segL g⟩, ⟨51, [.int .i64 0, .int .i64 0, .int .i64 0, .int .i64 0, .int .i64 0, .int .i64 0, .int .i64 0, .int .i64 0, .bool false, .bool false, .int .i64 0, .int .i64 0, .string (⟨#[]⟩ : ByteArray)]⟩, ⟨51, [.int .i64 g.dst, .int .i64 g.src, .int .i64 0, .int .i64 0, .int .i64 20, .int .i64 0, .int .i64 0, .int .i64 (-1), .bool false, .bool false, .int .i64 0, .int .i64 0, .string (⟨#[]⟩ : ByteArray)]⟩], [], []⟩ rfl (by kernel_rfl) (by kernel_rfl) (by kernel_rfl) (fun _ _ h => h) (by kernel_rfl) (by kernel_rfl) rfl (by kernel_rfl) ?_
        refine xe_take 2 (.v (.agg (segL g).toArray)) ⟨[(25, .v (.agg (segL g).toArray)), (24, .v (.int .i64 g.seq)), (23, .p 0 2), (1, .p 0 0), (2, .p 1 0), (4, .p 2 0)], [⟨51, segL g⟩, ⟨51, [.int .i64 0, .int .i64 0, .int .i64 0, .int .i64 0, .int .i64 0, .int .i64 0, .int .i64 0, .int .i64 0, .bool false, .bool false, .int .i64 0, .int .i64 0, .string (⟨#[]⟩ : ByteArray)]⟩, ⟨51, [.int .i64 g.dst, .int .i64 g.src, .int .i64 0, .int .i64 0, .int .i64 20, .int .i64 0, .int .i64 0, .int .i64 (-1), .bool false, .bool false, .int .i64 0, .int .i64 0, .string (⟨#[]⟩ : ByteArray)]⟩], [], []⟩ rfl (by kernel_rfl) (by kernel_rfl) (by kernel_rfl) (fun _ _ h => h) (by kernel_rfl) (by kernel_rfl) rfl (by kernel_rfl) ?_
        refine xe_all [3] (by kernel_rfl) (by simp) ?_
        refine xs_call 3 82 [.agg (segL g).toArray] (some 26) rfl (by kernel_rfl) rfl (by kernel_rfl) (xc_b fun ww hf => iSegmentLen_c g.src g.dst g.seq g.ack g.flags g.window g.o.mss g.o.scale g.o.sack g.o.stamp g.o.val g.o.echo g.body ww (by omega)) ?_
        intro _
        refine xe_all [4] (by kernel_rfl) (by simp) ?_
        refine xs_call 4 81 [.int .i64 g.seq, .int .i64 (segLen g)] (some 27) rfl (by kernel_rfl) rfl (by kernel_rfl) (xc_s fun ww hf => iSeqAdd_c g.seq (segLen g) ww ) ?_
        intro _
        refine xe_take 5 (.p 2 3) ⟨[(28, .p 2 3), (27, .v (.int .i64 (seqAdd g.seq (segLen g)))), (26, .v (.int .i64 (segLen g))), (25, .v (.agg (segL g).toArray)), (24, .v (.int .i64 g.seq)), (23, .p 0 2), (1, .p 0 0), (2, .p 1 0), (4, .p 2 0)], [⟨51, segL g⟩, ⟨51, [.int .i64 0, .int .i64 0, .int .i64 0, .int .i64 0, .int .i64 0, .int .i64 0, .int .i64 0, .int .i64 0, .bool false, .bool false, .int .i64 0, .int .i64 0, .string (⟨#[]⟩ : ByteArray)]⟩, ⟨51, [.int .i64 g.dst, .int .i64 g.src, .int .i64 0, .int .i64 0, .int .i64 20, .int .i64 0, .int .i64 0, .int .i64 (-1), .bool false, .bool false, .int .i64 0, .int .i64 0, .string (⟨#[]⟩ : ByteArray)]⟩], [], []⟩ rfl (by kernel_rfl) (by kernel_rfl) (by kernel_rfl) (fun _ _ h => h) (by kernel_rfl) (by kernel_rfl) rfl (by kernel_rfl) ?_
        refine xe_all [6] (by kernel_rfl) (by simp) ?_
        refine xs_store 6 2 3 [.int .i64 (seqAdd g.seq (segLen g))] ⟨[(28, .p 2 3), (27, .v (.int .i64 (seqAdd g.seq (segLen g)))), (26, .v (.int .i64 (segLen g))), (25, .v (.agg (segL g).toArray)), (24, .v (.int .i64 g.seq)), (23, .p 0 2), (1, .p 0 0), (2, .p 1 0), (4, .p 2 0)], [⟨51, segL g⟩, ⟨51, [.int .i64 0, .int .i64 0, .int .i64 0, .int .i64 0, .int .i64 0, .int .i64 0, .int .i64 0, .int .i64 0, .bool false, .bool false, .int .i64 0, .int .i64 0, .string (⟨#[]⟩ : ByteArray)]⟩, ⟨51, [.int .i64 g.dst, .int .i64 g.src, .int .i64 0, .int .i64 (seqAdd g.seq (segLen g)), .int .i64 20, .int .i64 0, .int .i64 0, .int .i64 (-1), .bool false, .bool false, .int .i64 0, .int .i64 0, .string (⟨#[]⟩ : ByteArray)]⟩], [], []⟩ rfl (by kernel_rfl) (by kernel_rfl) (by kernel_rfl) (by kernel_rfl) (by first | exact .inr rfl | exact .inl rfl) (by kernel_rfl) (by kernel_rfl) ?_
        refine xe_done (by kernel_rfl) ?_
        refine xw_seq ?_
        refine xw_region ?_
        refine xl_end [2, 3] ⟨[(2, .p 1 0), (3, .v (.bool true))], [⟨51, segL g⟩, ⟨51, [.int .i64 g.dst, .int .i64 g.src, .int .i64 0, .int .i64 (seqAdd g.seq (segLen g)), .int .i64 20, .int .i64 0, .int .i64 0, .int .i64 (-1), .bool false, .bool false, .int .i64 0, .int .i64 0, .string (⟨#[]⟩ : ByteArray)]⟩, ⟨51, [.int .i64 g.dst, .int .i64 g.src, .int .i64 0, .int .i64 (seqAdd g.seq (segLen g)), .int .i64 20, .int .i64 0, .int .i64 0, .int .i64 (-1), .bool false, .bool false, .int .i64 0, .int .i64 0, .string (⟨#[]⟩ : ByteArray)]⟩], [], []⟩ (by kernel_rfl) ?_
        refine xw_ret ?_
        have hmod : resetFor g = ((⟨g.dst, g.src, 0, seqAdd g.seq (segLen g), 20, 0, ⟨0, (-1), false, false, 0, 0⟩, (⟨#[]⟩ : ByteArray)⟩), true) := by first | rfl | (simp [resetFor, zeroSeg, *]; done) | grind [resetFor, zeroSeg]
        exact ⟨[.agg #[.int .i64 g.dst, .int .i64 g.src, .int .i64 0, .int .i64 (seqAdd g.seq (segLen g)), .int .i64 20, .int .i64 0, .int .i64 0, .int .i64 (-1), .bool false, .bool false, .int .i64 0, .int .i64 0, .string (⟨#[]⟩ : ByteArray)], .bool true], by kernel_rfl, fun w' hb hf => by rw [hmod]; exact ⟨rfl, hb⟩⟩
theorem yClonePiece_c (a : List Pce) (aV : Value) (w : World) (hl_aV : Sl w aV 2 (a.map pceCells)) (hkn : a.length ≤ 1048576) (B : Nat) (hB : B ≤ w.heap.size) : Calls Try.prog 156 #[aV] w fun e w' => XRs w w' e (α := Option Addr × Nat) (fun y => .slice y.1 a.length y.2) (fun y => [ownF B (.slice y.1 a.length y.2) 2 (a.map pceCells)]) := by
  obtain ⟨ra_aV, rc_aV, hv_aV⟩ := hl_aV.form
  rw [List.length_map] at hv_aV; subst hv_aV
  have hn_aV := hl_aV.len; rw [List.length_map] at hn_aV
  have hnil := fun h => Sl.nil_of h hl_aV
  refine x_callsA (args := [.slice ra_aV a.length rc_aV]) (fn := Try.f156) [slF (.slice ra_aV a.length rc_aV) 2 (a.map pceCells)] Try.func156 rfl Try.ntmps156 rfl (by simp only [List.mem_cons, List.not_mem_nil, or_false, forall_eq_or_imp, forall_eq]; exact ⟨rfl, hl_aV⟩) ?_
  refine xw_seq ?_
  refine xw_region ?_
  refine xl_end [0] ⟨[(0, .v (.slice ra_aV a.length rc_aV))], [], [], [slF (.slice ra_aV a.length rc_aV) 2 (a.map pceCells)]⟩ (by kernel_rfl) ?_
  refine xw_seq ?_
  refine xw_seq ?_
  refine xw_region ?_
  refine xl_op 1 [0, 3] ⟨[(0, .v (.slice ra_aV a.length rc_aV)), (3, .v (.slice ra_aV a.length rc_aV))], [], [], [slF (.slice ra_aV a.length rc_aV) 2 (a.map pceCells)]⟩ (.bool ra_aV.isNone) (by kernel_rfl) rfl (by kernel_rfl) rfl (fun _ _ _ ww hr => act_nilEq (e := 149) hr.1 rfl (by kernel_rfl) rfl rfl ww) ?_
  refine xl_end [0, 4] ⟨[(0, .v (.slice ra_aV a.length rc_aV)), (4, .v (.bool ra_aV.isNone))], [], [], [slF (.slice ra_aV a.length rc_aV) 2 (a.map pceCells)]⟩ (by kernel_rfl) ?_
  refine xw_cond (b := ra_aV.isNone) (by kernel_rfl) (fun h1 => ?_) (fun h1 => ?_)
  · skip
    refine xw_seq ?_
    refine xw_region ?_
    refine xl_end [2] ⟨[(2, .v (.slice none 0 0))], [], [], [slF (.slice ra_aV a.length rc_aV) 2 (a.map pceCells)]⟩ (by kernel_rfl) ?_
    refine xw_ret ?_
    have hmod : a = [] := by exact hnil (by assumption)
    exact ⟨[.slice none 0 0], by kernel_rfl, fun w' hb hf ha => by rw [hmod]; exact xr_one ((none, 0)) rfl rfl (.inl ⟨rfl, _, rfl⟩) (fun b hb => (hb.1 rfl).elim) hb⟩
  · skip
    refine xw_skip ?_
    refine xw_seq ?_
    refine xw_region ?_
    refine xl_hv 0 [0] ⟨[(0, .v (.slice ra_aV a.length rc_aV))], [], [], [slF (.slice ra_aV a.length rc_aV) 2 (a.map pceCells)]⟩ (by kernel_rfl) rfl (by kernel_rfl) rfl (by kernel_rfl) (hv_build (e := 149) (K := 2) (bytes := 24) [] rfl (by kernel_rfl) (by kernel_rfl) (by kernel_rfl) (by kernel_rfl) (by kernel_rfl) (rs := ([] : List Pce).map pceCells) rfl) ?_
    intro g2
    refine xl_hv 1 [5, 6] ⟨[(5, .v (.slice (some ⟨g2, 0, none⟩) 0 0)), (6, .v (.slice ra_aV a.length rc_aV))], [], [], [rowF w.heap.size 149 2 (.slice (some ⟨g2, 0, none⟩) 0 0) (([] : List Pce).map pceCells), slF (.slice ra_aV a.length rc_aV) 2 (a.map pceCells)]⟩ (by kernel_rfl) rfl (by kernel_rfl) rfl (by kernel_rfl) (hv_append (e := 149) (K := 2) (bytes := 24) (i := 0) (q := a.length) (new := a.map pceCells) (rs' := a.map pceCells) rfl rfl rfl rfl (by kernel_rfl) (by kernel_rfl) (by kernel_rfl) rfl (by simp) rfl (by simp) (fun ww hf => (hf (slF (.slice ra_aV a.length rc_aV) 2 (a.map pceCells)) (by simp))) (by intro r hr; obtain ⟨x, hx, rfl⟩ := List.mem_map.1 hr; exact ⟨rfl, by simp [pceCells, Value.oneCell']⟩) (by simp only [List.length_map, List.length_append, List.length_cons, List.length_nil, maxLen]; omega) (by simp only [List.length_map, List.length_append, List.length_cons, List.length_nil, maxLen]; omega)) ?_
    rintro ⟨v3a, v3c⟩
    refine xl_end [2] ⟨[(2, .v (.slice v3a a.length v3c))], [], [], [rowF w.heap.size 149 2 (.slice v3a a.length v3c) (a.map pceCells), slF (.slice ra_aV a.length rc_aV) 2 (a.map pceCells)]⟩ (by kernel_rfl) ?_
    refine xw_ret ?_
    exact ⟨[.slice v3a a.length v3c], by kernel_rfl, fun w' hb hf ha => by exact xr_one ((v3a, v3c)) rfl rfl (rowF_ownF (hf (rowF w.heap.size 149 2 (.slice v3a a.length v3c) (a.map pceCells)) (by simp)) hB) (fun b hb => rowF_lo (hf (rowF w.heap.size 149 2 (.slice v3a a.length v3c) (a.map pceCells)) (by simp)) (rowF_blk hb)) hb⟩
theorem yl18Copy_c (r : Rcv) (r_heldV : Value) (w : World) (hl_r_heldV : Sl w r_heldV 2 (r.held.map pceCells)) (hkn : r.held.length ≤ 1048576) (B : Nat) (hB : B ≤ w.heap.size) : Calls Try.prog 142 #[.agg (rcvL r r_heldV).toArray] w fun e w' => XRs w w' e (α := Option Addr × Nat) (fun y => .agg (rcvL r (.slice y.1 r.held.length y.2)).toArray) (fun y => [ownF B (.slice y.1 r.held.length y.2) 2 (r.held.map pceCells)]) := by
  obtain ⟨ra_r_heldV, rc_r_heldV, hv_r_heldV⟩ := hl_r_heldV.form
  rw [List.length_map] at hv_r_heldV; subst hv_r_heldV
  have hn_r_heldV := hl_r_heldV.len; rw [List.length_map] at hn_r_heldV
  refine x_callsA (args := [.agg (rcvL r (.slice ra_r_heldV r.held.length rc_r_heldV)).toArray]) (fn := Try.f142) [slF (.slice ra_r_heldV r.held.length rc_r_heldV) 2 (r.held.map pceCells)] Try.func142 rfl Try.ntmps142 rfl (by simp only [List.mem_cons, List.not_mem_nil, or_false, forall_eq_or_imp, forall_eq]; exact ⟨rfl, hl_r_heldV⟩) ?_
  refine xw_seq ?_
  refine xw_region ?_
  refine xl_end [1, 2] ⟨[(1, .p 0 0), (2, .p 1 0)], [⟨39, rcvL r (.slice ra_r_heldV r.held.length rc_r_heldV)⟩, ⟨39, [.int .i64 0, .string (⟨#[]⟩ : ByteArray), .slice none 0 0, .int .i64 0, .bool false]⟩], [], [slF (.slice ra_r_heldV r.held.length rc_r_heldV) 2 (r.held.map pceCells)]⟩ (by kernel_rfl) ?_
  refine xw_seq ?_
  refine xw_region ?_
  refine xl_hv 0 [1, 2] ⟨[(1, .p 0 0), (2, .p 1 0)], [⟨39, rcvL r (.slice ra_r_heldV r.held.length rc_r_heldV)⟩, ⟨39, [.int .i64 0, .string (⟨#[]⟩ : ByteArray), .slice none 0 0, .int .i64 0, .bool false]⟩], [], [slF (.slice ra_r_heldV r.held.length rc_r_heldV) 2 (r.held.map pceCells)]⟩ (by kernel_rfl) rfl (by kernel_rfl) rfl (by kernel_rfl) (hv_build (e := 149) (K := 2) (bytes := 24) [] rfl (by kernel_rfl) (by kernel_rfl) (by kernel_rfl) (by kernel_rfl) (by kernel_rfl) (rs := ([] : List Pce).map pceCells) rfl) ?_
  intro g1
  refine xl_hv 2 [1, 2, 3, 5] ⟨[(1, .p 0 0), (2, .p 1 0), (3, .v (.slice (some ⟨g1, 0, none⟩) 0 0)), (5, .v (.slice ra_r_heldV r.held.length rc_r_heldV))], [⟨39, rcvL r (.slice ra_r_heldV r.held.length rc_r_heldV)⟩, ⟨39, [.int .i64 0, .string (⟨#[]⟩ : ByteArray), .slice none 0 0, .int .i64 0, .bool false]⟩], [], [rowF w.heap.size 149 2 (.slice (some ⟨g1, 0, none⟩) 0 0) (([] : List Pce).map pceCells), slF (.slice ra_r_heldV r.held.length rc_r_heldV) 2 (r.held.map pceCells)]⟩ (by kernel_rfl) rfl (by kernel_rfl) rfl (by kernel_rfl) (hv_append (e := 149) (K := 2) (bytes := 24) (i := 0) (q := r.held.length) (new := r.held.map pceCells) (rs' := r.held.map pceCells) rfl rfl rfl rfl (by kernel_rfl) (by kernel_rfl) (by kernel_rfl) rfl (by simp) rfl (by simp) (fun ww hf => (hf (slF (.slice ra_r_heldV r.held.length rc_r_heldV) 2 (r.held.map pceCells)) (by simp))) (by intro r hr; obtain ⟨x, hx, rfl⟩ := List.mem_map.1 hr; exact ⟨rfl, by simp [pceCells, Value.oneCell']⟩) (by simp only [List.length_map, List.length_append, List.length_cons, List.length_nil, maxLen]; omega) (by simp only [List.length_map, List.length_append, List.length_cons, List.length_nil, maxLen]; omega)) ?_
  rintro ⟨v2a, v2c⟩
  refine xl_end [1, 2] ⟨[(1, .p 0 0), (2, .p 1 0)], [⟨39, rcvL r (.slice v2a r.held.length v2c)⟩, ⟨39, [.int .i64 0, .string (⟨#[]⟩ : ByteArray), .slice none 0 0, .int .i64 0, .bool false]⟩], [], [rowF w.heap.size 149 2 (.slice v2a r.held.length v2c) (r.held.map pceCells), slF (.slice ra_r_heldV r.held.length rc_r_heldV) 2 (r.held.map pceCells)]⟩ (by kernel_rfl) ?_
  refine xw_seq ?_
  refine xw_region ?_
  refine xl_end [2] ⟨[(2, .p 1 0)], [⟨39, rcvL r (.slice v2a r.held.length v2c)⟩, ⟨39, rcvL r (.slice v2a r.held.length v2c)⟩], [], [rowF w.heap.size 149 2 (.slice v2a r.held.length v2c) (r.held.map pceCells), slF (.slice ra_r_heldV r.held.length rc_r_heldV) 2 (r.held.map pceCells)]⟩ (by kernel_rfl) ?_
  refine xw_ret ?_
  exact ⟨[.agg (rcvL r (.slice v2a r.held.length v2c)).toArray], by kernel_rfl, fun w' hb hf ha => by exact xr_one ((v2a, v2c)) rfl rfl (rowF_ownF (hf (rowF w.heap.size 149 2 (.slice v2a r.held.length v2c) (r.held.map pceCells)) (by simp)) hB) (fun b hb => rowF_lo (hf (rowF w.heap.size 149 2 (.slice v2a r.held.length v2c) (r.held.map pceCells)) (by simp)) (rowF_blk hb)) hb⟩
theorem ycloneReceiver_c (r : Rcv) (r_heldV : Value) (w : World) (hl_r_heldV : Sl w r_heldV 2 (r.held.map pceCells)) (hkn : r.held.length ≤ 1048576) (B : Nat) (hB : B ≤ w.heap.size) : Calls Try.prog 143 #[.agg (rcvL r r_heldV).toArray] w fun e w' => XRs w w' e (α := Option Addr × Nat) (fun y => .agg (rcvL r (.slice y.1 r.held.length y.2)).toArray) (fun y => [ownF B (.slice y.1 r.held.length y.2) 2 (r.held.map pceCells)]) := by
  obtain ⟨ra_r_heldV, rc_r_heldV, hv_r_heldV⟩ := hl_r_heldV.form
  rw [List.length_map] at hv_r_heldV; subst hv_r_heldV
  have hn_r_heldV := hl_r_heldV.len; rw [List.length_map] at hn_r_heldV
  refine x_callsA (args := [.agg (rcvL r (.slice ra_r_heldV r.held.length rc_r_heldV)).toArray]) (fn := Try.f143) [slF (.slice ra_r_heldV r.held.length rc_r_heldV) 2 (r.held.map pceCells)] Try.func143 rfl Try.ntmps143 rfl (by simp only [List.mem_cons, List.not_mem_nil, or_false, forall_eq_or_imp, forall_eq]; exact ⟨rfl, hl_r_heldV⟩) ?_
  refine xw_seq ?_
  refine xw_region ?_
  refine xl_end [1, 2] ⟨[(1, .p 0 0), (2, .p 1 0)], [⟨39, rcvL r (.slice ra_r_heldV r.held.length rc_r_heldV)⟩, ⟨39, [.int .i64 0, .string (⟨#[]⟩ : ByteArray), .slice none 0 0, .int .i64 0, .bool false]⟩], [], [slF (.slice ra_r_heldV r.held.length rc_r_heldV) 2 (r.held.map pceCells)]⟩ (by kernel_rfl) ?_
  refine xw_seq ?_
  refine xw_region ?_
  refine xl_call 2 [1, 2, 4] ⟨[(1, .p 0 0), (2, .p 1 0), (4, .v (.slice ra_r_heldV r.held.length rc_r_heldV))], [⟨39, rcvL r (.slice ra_r_heldV r.held.length rc_r_heldV)⟩, ⟨39, [.int .i64 0, .string (⟨#[]⟩ : ByteArray), .slice none 0 0, .int .i64 0, .bool false]⟩], [], [slF (.slice ra_r_heldV r.held.length rc_r_heldV) 2 (r.held.map pceCells)]⟩ 156 [.slice ra_r_heldV r.held.length rc_r_heldV] (some 5) (by kernel_rfl) rfl (by kernel_rfl) rfl (by kernel_rfl) (xc_r fun ww hw hf => yClonePiece_c r.held (.slice ra_r_heldV r.held.length rc_r_heldV) ww (hf (slF (.slice ra_r_heldV r.held.length rc_r_heldV) 2 (r.held.map pceCells)) (by simp)) (by assumption) w.heap.size hw) ?_
  rintro ⟨v1a, v1c⟩
  refine xl_end [1, 2] ⟨[(1, .p 0 0), (2, .p 1 0)], [⟨39, rcvL r (.slice v1a r.held.length v1c)⟩, ⟨39, [.int .i64 0, .string (⟨#[]⟩ : ByteArray), .slice none 0 0, .int .i64 0, .bool false]⟩], [], [ownF w.heap.size (.slice v1a r.held.length v1c) 2 (r.held.map pceCells), slF (.slice ra_r_heldV r.held.length rc_r_heldV) 2 (r.held.map pceCells)]⟩ (by kernel_rfl) ?_
  refine xw_seq ?_
  refine xw_region ?_
  refine xl_end [2] ⟨[(2, .p 1 0)], [⟨39, rcvL r (.slice v1a r.held.length v1c)⟩, ⟨39, rcvL r (.slice v1a r.held.length v1c)⟩], [], [ownF w.heap.size (.slice v1a r.held.length v1c) 2 (r.held.map pceCells), slF (.slice ra_r_heldV r.held.length rc_r_heldV) 2 (r.held.map pceCells)]⟩ (by kernel_rfl) ?_
  refine xw_ret ?_
  exact ⟨[.agg (rcvL r (.slice v1a r.held.length v1c)).toArray], by kernel_rfl, fun w' hb hf ha => by exact xr_one ((v1a, v1c)) rfl rfl (ownF_ownF (hf (ownF w.heap.size (.slice v1a r.held.length v1c) 2 (r.held.map pceCells)) (by simp)) hB) (fun b hb => ownF_lo (hf (ownF w.heap.size (.slice v1a r.held.length v1c) 2 (r.held.map pceCells)) (by simp)) hb) hb⟩
theorem yl19Copy_c (c : Con) (c_r_heldV : Value) (w : World) (hl_c_r_heldV : Sl w c_r_heldV 2 (c.r.held.map pceCells)) (hkn : c.r.held.length ≤ 1048576) (B : Nat) (hB : B ≤ w.heap.size) : Calls Try.prog 95 #[.agg (conL c c_r_heldV).toArray] w fun e w' => XRs w w' e (α := Option Addr × Nat) (fun y => .agg (conL c (.slice y.1 c.r.held.length y.2)).toArray) (fun y => [ownF B (.slice y.1 c.r.held.length y.2) 2 (c.r.held.map pceCells)]) := by
  obtain ⟨ra_c_r_heldV, rc_c_r_heldV, hv_c_r_heldV⟩ := hl_c_r_heldV.form
  rw [List.length_map] at hv_c_r_heldV; subst hv_c_r_heldV
  have hn_c_r_heldV := hl_c_r_heldV.len; rw [List.length_map] at hn_c_r_heldV
  refine x_callsA (args := [.agg (conL c (.slice ra_c_r_heldV c.r.held.length rc_c_r_heldV)).toArray]) (fn := Try.f95) [slF (.slice ra_c_r_heldV c.r.held.length rc_c_r_heldV) 2 (c.r.held.map pceCells)] Try.func95 rfl Try.ntmps95 rfl (by simp only [List.mem_cons, List.not_mem_nil, or_false, forall_eq_or_imp, forall_eq]; exact ⟨rfl, hl_c_r_heldV⟩) ?_
  refine xw_seq ?_
  refine xw_region ?_
  refine xl_end [1, 2] ⟨[(1, .p 0 0), (2, .p 1 0)], [⟨42, conL c (.slice ra_c_r_heldV c.r.held.length rc_c_r_heldV)⟩, ⟨42, [.int .i64 0, .int .i64 0, .int .i64 0, .int .i64 0, .int .i64 0, .string (⟨#[]⟩ : ByteArray), .int .i64 0, .bool false, .bool false, .bool false, .int .i64 0, .string (⟨#[]⟩ : ByteArray), .slice none 0 0, .int .i64 0, .bool false, .int .i64 0, .int .i64 0, .int .i64 0, .int .i64 0, .bool false, .bool false, .int .i64 0, .int .i64 0, .int .i64 0, .int .i64 0]⟩], [], [slF (.slice ra_c_r_heldV c.r.held.length rc_c_r_heldV) 2 (c.r.held.map pceCells)]⟩ (by kernel_rfl) ?_
  refine xw_seq ?_
  refine xw_region ?_
  refine xl_call 2 [1, 2, 4] ⟨[(1, .p 0 0), (2, .p 1 0), (4, .v (.agg (rcvL c.r (.slice ra_c_r_heldV c.r.held.length rc_c_r_heldV)).toArray))], [⟨42, conL c (.slice ra_c_r_heldV c.r.held.length rc_c_r_heldV)⟩, ⟨42, [.int .i64 0, .int .i64 0, .int .i64 0, .int .i64 0, .int .i64 0, .string (⟨#[]⟩ : ByteArray), .int .i64 0, .bool false, .bool false, .bool false, .int .i64 0, .string (⟨#[]⟩ : ByteArray), .slice none 0 0, .int .i64 0, .bool false, .int .i64 0, .int .i64 0, .int .i64 0, .int .i64 0, .bool false, .bool false, .int .i64 0, .int .i64 0, .int .i64 0, .int .i64 0]⟩], [], [slF (.slice ra_c_r_heldV c.r.held.length rc_c_r_heldV) 2 (c.r.held.map pceCells)]⟩ 142 [.agg (rcvL c.r (.slice ra_c_r_heldV c.r.held.length rc_c_r_heldV)).toArray] (some 5) (by kernel_rfl) rfl (by kernel_rfl) rfl (by kernel_rfl) (xc_r fun ww hw hf => yl18Copy_c c.r (.slice ra_c_r_heldV c.r.held.length rc_c_r_heldV) ww (hf (slF (.slice ra_c_r_heldV c.r.held.length rc_c_r_heldV) 2 (c.r.held.map pceCells)) (by simp)) (by assumption) w.heap.size hw) ?_
  rintro ⟨v1a, v1c⟩
  refine xl_end [1, 2] ⟨[(1, .p 0 0), (2, .p 1 0)], [⟨42, conL c (.slice v1a c.r.held.length v1c)⟩, ⟨42, [.int .i64 0, .int .i64 0, .int .i64 0, .int .i64 0, .int .i64 0, .string (⟨#[]⟩ : ByteArray), .int .i64 0, .bool false, .bool false, .bool false, .int .i64 0, .string (⟨#[]⟩ : ByteArray), .slice none 0 0, .int .i64 0, .bool false, .int .i64 0, .int .i64 0, .int .i64 0, .int .i64 0, .bool false, .bool false, .int .i64 0, .int .i64 0, .int .i64 0, .int .i64 0]⟩], [], [ownF w.heap.size (.slice v1a c.r.held.length v1c) 2 (c.r.held.map pceCells), slF (.slice ra_c_r_heldV c.r.held.length rc_c_r_heldV) 2 (c.r.held.map pceCells)]⟩ (by kernel_rfl) ?_
  refine xw_seq ?_
  refine xw_region ?_
  refine xl_end [2] ⟨[(2, .p 1 0)], [⟨42, conL c (.slice v1a c.r.held.length v1c)⟩, ⟨42, conL c (.slice v1a c.r.held.length v1c)⟩], [], [ownF w.heap.size (.slice v1a c.r.held.length v1c) 2 (c.r.held.map pceCells), slF (.slice ra_c_r_heldV c.r.held.length rc_c_r_heldV) 2 (c.r.held.map pceCells)]⟩ (by kernel_rfl) ?_
  refine xw_ret ?_
  exact ⟨[.agg (conL c (.slice v1a c.r.held.length v1c)).toArray], by kernel_rfl, fun w' hb hf ha => by exact xr_one ((v1a, v1c)) rfl rfl (ownF_ownF (hf (ownF w.heap.size (.slice v1a c.r.held.length v1c) 2 (c.r.held.map pceCells)) (by simp)) hB) (fun b hb => ownF_lo (hf (ownF w.heap.size (.slice v1a c.r.held.length v1c) 2 (c.r.held.map pceCells)) (by simp)) hb) hb⟩
theorem ycloneConn_c (c : Con) (c_r_heldV : Value) (w : World) (hl_c_r_heldV : Sl w c_r_heldV 2 (c.r.held.map pceCells)) (hkn : c.r.held.length ≤ 1048576) (B : Nat) (hB : B ≤ w.heap.size) : Calls Try.prog 97 #[.agg (conL c c_r_heldV).toArray] w fun e w' => XRs w w' e (α := Option Addr × Nat) (fun y => .agg (conL c (.slice y.1 c.r.held.length y.2)).toArray) (fun y => [ownF B (.slice y.1 c.r.held.length y.2) 2 (c.r.held.map pceCells)]) := by
  obtain ⟨ra_c_r_heldV, rc_c_r_heldV, hv_c_r_heldV⟩ := hl_c_r_heldV.form
  rw [List.length_map] at hv_c_r_heldV; subst hv_c_r_heldV
  have hn_c_r_heldV := hl_c_r_heldV.len; rw [List.length_map] at hn_c_r_heldV
  refine x_callsA (args := [.agg (conL c (.slice ra_c_r_heldV c.r.held.length rc_c_r_heldV)).toArray]) (fn := Try.f97) [slF (.slice ra_c_r_heldV c.r.held.length rc_c_r_heldV) 2 (c.r.held.map pceCells)] Try.func97 rfl Try.ntmps97 rfl (by simp only [List.mem_cons, List.not_mem_nil, or_false, forall_eq_or_imp, forall_eq]; exact ⟨rfl, hl_c_r_heldV⟩) ?_
  refine xw_seq ?_
  refine xw_region ?_
  refine xl_end [1, 2] ⟨[(1, .p 0 0), (2, .p 1 0)], [⟨42, conL c (.slice ra_c_r_heldV c.r.held.length rc_c_r_heldV)⟩, ⟨42, [.int .i64 0, .int .i64 0, .int .i64 0, .int .i64 0, .int .i64 0, .string (⟨#[]⟩ : ByteArray), .int .i64 0, .bool false, .bool false, .bool false, .int .i64 0, .string (⟨#[]⟩ : ByteArray), .slice none 0 0, .int .i64 0, .bool false, .int .i64 0, .int .i64 0, .int .i64 0, .int .i64 0, .bool false, .bool false, .int .i64 0, .int .i64 0, .int .i64 0, .int .i64 0]⟩], [], [slF (.slice ra_c_r_heldV c.r.held.length rc_c_r_heldV) 2 (c.r.held.map pceCells)]⟩ (by kernel_rfl) ?_
  refine xw_seq ?_
  refine xw_region ?_
  refine xl_call 2 [1, 2, 4] ⟨[(1, .p 0 0), (2, .p 1 0), (4, .v (.agg (rcvL c.r (.slice ra_c_r_heldV c.r.held.length rc_c_r_heldV)).toArray))], [⟨42, conL c (.slice ra_c_r_heldV c.r.held.length rc_c_r_heldV)⟩, ⟨42, [.int .i64 0, .int .i64 0, .int .i64 0, .int .i64 0, .int .i64 0, .string (⟨#[]⟩ : ByteArray), .int .i64 0, .bool false, .bool false, .bool false, .int .i64 0, .string (⟨#[]⟩ : ByteArray), .slice none 0 0, .int .i64 0, .bool false, .int .i64 0, .int .i64 0, .int .i64 0, .int .i64 0, .bool false, .bool false, .int .i64 0, .int .i64 0, .int .i64 0, .int .i64 0]⟩], [], [slF (.slice ra_c_r_heldV c.r.held.length rc_c_r_heldV) 2 (c.r.held.map pceCells)]⟩ 143 [.agg (rcvL c.r (.slice ra_c_r_heldV c.r.held.length rc_c_r_heldV)).toArray] (some 5) (by kernel_rfl) rfl (by kernel_rfl) rfl (by kernel_rfl) (xc_r fun ww hw hf => ycloneReceiver_c c.r (.slice ra_c_r_heldV c.r.held.length rc_c_r_heldV) ww (hf (slF (.slice ra_c_r_heldV c.r.held.length rc_c_r_heldV) 2 (c.r.held.map pceCells)) (by simp)) (by assumption) w.heap.size hw) ?_
  rintro ⟨v1a, v1c⟩
  refine xl_end [1, 2] ⟨[(1, .p 0 0), (2, .p 1 0)], [⟨42, conL c (.slice v1a c.r.held.length v1c)⟩, ⟨42, [.int .i64 0, .int .i64 0, .int .i64 0, .int .i64 0, .int .i64 0, .string (⟨#[]⟩ : ByteArray), .int .i64 0, .bool false, .bool false, .bool false, .int .i64 0, .string (⟨#[]⟩ : ByteArray), .slice none 0 0, .int .i64 0, .bool false, .int .i64 0, .int .i64 0, .int .i64 0, .int .i64 0, .bool false, .bool false, .int .i64 0, .int .i64 0, .int .i64 0, .int .i64 0]⟩], [], [ownF w.heap.size (.slice v1a c.r.held.length v1c) 2 (c.r.held.map pceCells), slF (.slice ra_c_r_heldV c.r.held.length rc_c_r_heldV) 2 (c.r.held.map pceCells)]⟩ (by kernel_rfl) ?_
  refine xw_seq ?_
  refine xw_region ?_
  refine xl_end [2] ⟨[(2, .p 1 0)], [⟨42, conL c (.slice v1a c.r.held.length v1c)⟩, ⟨42, conL c (.slice v1a c.r.held.length v1c)⟩], [], [ownF w.heap.size (.slice v1a c.r.held.length v1c) 2 (c.r.held.map pceCells), slF (.slice ra_c_r_heldV c.r.held.length rc_c_r_heldV) 2 (c.r.held.map pceCells)]⟩ (by kernel_rfl) ?_
  refine xw_ret ?_
  exact ⟨[.agg (conL c (.slice v1a c.r.held.length v1c)).toArray], by kernel_rfl, fun w' hb hf ha => by exact xr_one ((v1a, v1c)) rfl rfl (ownF_ownF (hf (ownF w.heap.size (.slice v1a c.r.held.length v1c) 2 (c.r.held.map pceCells)) (by simp)) hB) (fun b hb => ownF_lo (hf (ownF w.heap.size (.slice v1a c.r.held.length v1c) 2 (c.r.held.map pceCells)) (by simp)) hb) hb⟩
end Go.Proofs.Ytjfamgkkenccdaa
