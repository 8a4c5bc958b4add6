/- Contracts (Y3i). -/
import Derived.Test.YtjfamgkkenccdaaY3
namespace Go.Proofs.Ytjfamgkkenccdaa
open Go.RowKit
set_option linter.unusedVariables false
set_option linter.unusedSimpArgs false
set_option maxRecDepth 100000

theorem yiConnOk_c (c : Con) (c_r_heldV : Value) (w : World) (hl_c_r_heldV : Sl w c_r_heldV 2 (c.r.held.map pceCells)) (hm : ∀ p ∈ c.r.held, p.text.size ≤ 1048576) (hsz : c.r.data.size ≤ 4611686018427387904) : Calls Try.prog 70 #[.agg (conL c c_r_heldV).toArray] w fun e w' => e = .returned (.bool (conOk c)) ∧ Below w.heap.size w w' := by
  obtain ⟨ra_c_r_heldV, rc_c_r_heldV, hv_c_r_heldV⟩ := hl_c_r_heldV.form
  rw [List.length_map] at hv_c_r_heldV; subst hv_c_r_heldV
  have hn_c_r_heldV := hl_c_r_heldV.len; rw [List.length_map] at hn_c_r_heldV
  refine x_calls (args := [.agg (conL c (.slice ra_c_r_heldV c.r.held.length rc_c_r_heldV)).toArray]) (fn := Try.f70) [slF (.slice ra_c_r_heldV c.r.held.length rc_c_r_heldV) 2 (c.r.held.map pceCells)] Try.func70 rfl Try.ntmps70 rfl (by simp only [List.mem_cons, List.not_mem_nil, or_false, forall_eq_or_imp, forall_eq]; exact ⟨rfl, hl_c_r_heldV⟩) ?_
  refine xw_seq ?_
  refine xw_region ?_
  refine xl_end [1] ⟨[(1, .p 0 0)], [⟨42, conL c (.slice ra_c_r_heldV c.r.held.length rc_c_r_heldV)⟩], [], [slF (.slice ra_c_r_heldV c.r.held.length rc_c_r_heldV) 2 (c.r.held.map pceCells)]⟩ (by kernel_rfl) ?_
  refine xw_seq ?_
  refine xw_seq ?_
  refine xw_region ?_
  refine xl_call 2 [1, 8] ⟨[(1, .p 0 0), (8, .v (.agg (tupL c.t).toArray))], [⟨42, conL c (.slice ra_c_r_heldV c.r.held.length rc_c_r_heldV)⟩], [], [slF (.slice ra_c_r_heldV c.r.held.length rc_c_r_heldV) 2 (c.r.held.map pceCells)]⟩ 89 [.agg (tupL c.t).toArray] (some 9) (by kernel_rfl) rfl (by kernel_rfl) rfl (by kernel_rfl) (xc_b fun ww hf => iTupleOk_c c.t.ip c.t.port c.t.my ww ) ?_
  intro _
  refine xl_run 2 [1, 11] ⟨[(1, .p 0 0), (11, .v (.bool (!(tupleOk c.t))))], [⟨42, conL c (.slice ra_c_r_heldV c.r.held.length rc_c_r_heldV)⟩], [], [slF (.slice ra_c_r_heldV c.r.held.length rc_c_r_heldV) 2 (c.r.held.map pceCells)]⟩ (by kernel_rfl) ?_
  refine xl_split 11 (b := !(tupleOk c.t)) (by kernel_rfl) (fun h1 => ?_) (fun h1 => ?_)
  · skip
    refine xl_end [1, 34] ⟨[(1, .p 0 0), (34, .v (.bool true))], [⟨42, conL c (.slice ra_c_r_heldV c.r.held.length rc_c_r_heldV)⟩], [], [slF (.slice ra_c_r_heldV c.r.held.length rc_c_r_heldV) 2 (c.r.held.map pceCells)]⟩ (by kernel_rfl) ?_
    refine xw_true (by kernel_rfl) ?_
    refine xw_seq ?_
    refine xw_region ?_
    refine xl_end [2] ⟨[(2, .v (.bool false))], [⟨42, conL c (.slice ra_c_r_heldV c.r.held.length rc_c_r_heldV)⟩], [], [slF (.slice ra_c_r_heldV c.r.held.length rc_c_r_heldV) 2 (c.r.held.map pceCells)]⟩ (by kernel_rfl) ?_
    refine xw_ret ?_
    exact ⟨[.bool false], by kernel_rfl, fun w' hb hf => ⟨ret_bool (show (false : Bool) = conOk c from by first | rfl | (simp [conOk, conPre, conMid, stateFits, *]; done) | (clear hm hf hb; simp_all [conOk, conPre, conMid, stateFits]; done) | grind [conOk, conPre, conMid, stateFits, inB]), hb⟩⟩
  · skip
    refine xl_call 2 [1, 11, 13] ⟨[(1, .p 0 0), (11, .v (.bool false)), (13, .v (.agg (sndL c.s).toArray))], [⟨42, conL c (.slice ra_c_r_heldV c.r.held.length rc_c_r_heldV)⟩], [], [slF (.slice ra_c_r_heldV c.r.held.length rc_c_r_heldV) 2 (c.r.held.map pceCells)]⟩ 135 [.agg (sndL c.s).toArray] (some 14) (by kernel_rfl) rfl (by kernel_rfl) rfl (by kernel_rfl) (xc_b fun ww hf => iSenderOk_c c.s.una c.s.data c.s.sent c.s.fin c.s.finSent c.s.done ww ) ?_
    intro _
    refine xl_run 3 [1, 17] ⟨[(1, .p 0 0), (17, .v (.bool (!(senderOk c.s))))], [⟨42, conL c (.slice ra_c_r_heldV c.r.held.length rc_c_r_heldV)⟩], [], [slF (.slice ra_c_r_heldV c.r.held.length rc_c_r_heldV) 2 (c.r.held.map pceCells)]⟩ (by kernel_rfl) ?_
    refine xl_split 17 (b := !(senderOk c.s)) (by kernel_rfl) (fun h2 => ?_) (fun h2 => ?_)
    · skip
      refine xl_end [1, 34] ⟨[(1, .p 0 0), (34, .v (.bool true))], [⟨42, conL c (.slice ra_c_r_heldV c.r.held.length rc_c_r_heldV)⟩], [], [slF (.slice ra_c_r_heldV c.r.held.length rc_c_r_heldV) 2 (c.r.held.map pceCells)]⟩ (by kernel_rfl) ?_
      refine xw_true (by kernel_rfl) ?_
      refine xw_seq ?_
      refine xw_region ?_
      refine xl_end [2] ⟨[(2, .v (.bool false))], [⟨42, conL c (.slice ra_c_r_heldV c.r.held.length rc_c_r_heldV)⟩], [], [slF (.slice ra_c_r_heldV c.r.held.length rc_c_r_heldV) 2 (c.r.held.map pceCells)]⟩ (by kernel_rfl) ?_
      refine xw_ret ?_
      exact ⟨[.bool false], by kernel_rfl, fun w' hb hf => ⟨ret_bool (show (false : Bool) = conOk c from by first | rfl | (simp [conOk, conPre, conMid, stateFits, *]; done) | (clear hm hf hb; simp_all [conOk, conPre, conMid, stateFits]; done) | grind [conOk, conPre, conMid, stateFits, inB]), hb⟩⟩
    · skip
      refine xl_call 2 [1, 17, 19] ⟨[(1, .p 0 0), (17, .v (.bool false)), (19, .v (.agg (rcvL c.r (.slice ra_c_r_heldV c.r.held.length rc_c_r_heldV)).toArray))], [⟨42, conL c (.slice ra_c_r_heldV c.r.held.length rc_c_r_heldV)⟩], [], [slF (.slice ra_c_r_heldV c.r.held.length rc_c_r_heldV) 2 (c.r.held.map pceCells)]⟩ 136 [.agg (rcvL c.r (.slice ra_c_r_heldV c.r.held.length rc_c_r_heldV)).toArray] (some 20) (by kernel_rfl) rfl (by kernel_rfl) rfl (by kernel_rfl) (xc_b fun ww hf => yiReceiverOk_c c.r (.slice ra_c_r_heldV c.r.held.length rc_c_r_heldV) ww (hf (slF (.slice ra_c_r_heldV c.r.held.length rc_c_r_heldV) 2 (c.r.held.map pceCells)) (by simp)) (by assumption) (by omega)) ?_
      intro _
      refine xl_run 3 [1, 23] ⟨[(1, .p 0 0), (23, .v (.bool (!(receiverOk c.r))))], [⟨42, conL c (.slice ra_c_r_heldV c.r.held.length rc_c_r_heldV)⟩], [], [slF (.slice ra_c_r_heldV c.r.held.length rc_c_r_heldV) 2 (c.r.held.map pceCells)]⟩ (by kernel_rfl) ?_
      refine xl_split 23 (b := !(receiverOk c.r)) (by kernel_rfl) (fun h3 => ?_) (fun h3 => ?_)
      · skip
        refine xl_end [1, 34] ⟨[(1, .p 0 0), (34, .v (.bool true))], [⟨42, conL c (.slice ra_c_r_heldV c.r.held.length rc_c_r_heldV)⟩], [], [slF (.slice ra_c_r_heldV c.r.held.length rc_c_r_heldV) 2 (c.r.held.map pceCells)]⟩ (by kernel_rfl) ?_
        refine xw_true (by kernel_rfl) ?_
        refine xw_seq ?_
        refine xw_region ?_
        refine xl_end [2] ⟨[(2, .v (.bool false))], [⟨42, conL c (.slice ra_c_r_heldV c.r.held.length rc_c_r_heldV)⟩], [], [slF (.slice ra_c_r_heldV c.r.held.length rc_c_r_heldV) 2 (c.r.held.map pceCells)]⟩ (by kernel_rfl) ?_
        refine xw_ret ?_
        exact ⟨[.bool false], by kernel_rfl, fun w' hb hf => ⟨ret_bool (show (false : Bool) = conOk c from by first | rfl | (simp [conOk, conPre, conMid, stateFits, *]; done) | (clear hm hf hb; simp_all [conOk, conPre, conMid, stateFits]; done) | grind [conOk, conPre, conMid, stateFits, inB]), hb⟩⟩
      · skip
        refine xl_call 2 [1, 23, 25] ⟨[(1, .p 0 0), (23, .v (.bool false)), (25, .v (.agg (optL c.o).toArray))], [⟨42, conL c (.slice ra_c_r_heldV c.r.held.length rc_c_r_heldV)⟩], [], [slF (.slice ra_c_r_heldV c.r.held.length rc_c_r_heldV) 2 (c.r.held.map pceCells)]⟩ 91 [.agg (optL c.o).toArray] (some 26) (by kernel_rfl) rfl (by kernel_rfl) rfl (by kernel_rfl) (xc_b fun ww hf => iOptionsOk_c c.o.mss c.o.scale c.o.sack c.o.stamp c.o.val c.o.echo ww ) ?_
        intro _
        refine xl_run 3 [1, 29] ⟨[(1, .p 0 0), (29, .v (.bool (!(optionsOk c.o))))], [⟨42, conL c (.slice ra_c_r_heldV c.r.held.length rc_c_r_heldV)⟩], [], [slF (.slice ra_c_r_heldV c.r.held.length rc_c_r_heldV) 2 (c.r.held.map pceCells)]⟩ (by kernel_rfl) ?_
        refine xl_split 29 (b := !(optionsOk c.o)) (by kernel_rfl) (fun h4 => ?_) (fun h4 => ?_)
        · skip
          refine xl_end [1, 34] ⟨[(1, .p 0 0), (34, .v (.bool true))], [⟨42, conL c (.slice ra_c_r_heldV c.r.held.length rc_c_r_heldV)⟩], [], [slF (.slice ra_c_r_heldV c.r.held.length rc_c_r_heldV) 2 (c.r.held.map pceCells)]⟩ (by kernel_rfl) ?_
          refine xw_true (by kernel_rfl) ?_
          refine xw_seq ?_
          refine xw_region ?_
          refine xl_end [2] ⟨[(2, .v (.bool false))], [⟨42, conL c (.slice ra_c_r_heldV c.r.held.length rc_c_r_heldV)⟩], [], [slF (.slice ra_c_r_heldV c.r.held.length rc_c_r_heldV) 2 (c.r.held.map pceCells)]⟩ (by kernel_rfl) ?_
          refine xw_ret ?_
          exact ⟨[.bool false], by kernel_rfl, fun w' hb hf => ⟨ret_bool (show (false : Bool) = conOk c from by first | rfl | (simp [conOk, conPre, conMid, stateFits, *]; done) | (clear hm hf hb; simp_all [conOk, conPre, conMid, stateFits]; done) | grind [conOk, conPre, conMid, stateFits, inB]), hb⟩⟩
        · skip
          refine xl_call 2 [1, 29, 31] ⟨[(1, .p 0 0), (29, .v (.bool false)), (31, .v (.int .i64 c.state))], [⟨42, conL c (.slice ra_c_r_heldV c.r.held.length rc_c_r_heldV)⟩], [], [slF (.slice ra_c_r_heldV c.r.held.length rc_c_r_heldV) 2 (c.r.held.map pceCells)]⟩ 92 [.int .i64 c.state, .int .i64 1, .int .i64 8] (some 32) (by kernel_rfl) rfl (by kernel_rfl) rfl (by kernel_rfl) (xc_s fun ww hf => within_c c.state 1 8 ww ) ?_
          intro _
          refine xl_end [1, 34] ⟨[(1, .p 0 0), (34, .v (.bool (!(inB c.state 1 8))))], [⟨42, conL c (.slice ra_c_r_heldV c.r.held.length rc_c_r_heldV)⟩], [], [slF (.slice ra_c_r_heldV c.r.held.length rc_c_r_heldV) 2 (c.r.held.map pceCells)]⟩ (by kernel_rfl) ?_
          refine xw_cond (b := !(inB c.state 1 8)) (by kernel_rfl) (fun h5 => ?_) (fun h5 => ?_)
          · skip
            refine xw_seq ?_
            refine xw_region ?_
            refine xl_end [2] ⟨[(2, .v (.bool false))], [⟨42, conL c (.slice ra_c_r_heldV c.r.held.length rc_c_r_heldV)⟩], [], [slF (.slice ra_c_r_heldV c.r.held.length rc_c_r_heldV) 2 (c.r.held.map pceCells)]⟩ (by kernel_rfl) ?_
            refine xw_ret ?_
            exact ⟨[.bool false], by kernel_rfl, fun w' hb hf => ⟨ret_bool (show (false : Bool) = conOk c from by first | rfl | (simp [conOk, conPre, conMid, stateFits, *]; done) | (clear hm hf hb; simp_all [conOk, conPre, conMid, stateFits]; done) | grind [conOk, conPre, conMid, stateFits, inB]), hb⟩⟩
          · skip
            refine xw_skip ?_
            refine xw_seq ?_
            refine xw_region ?_
            refine xl_end [1, 3] ⟨[(1, .p 0 0), (3, .v (.int .i64 3))], [⟨42, conL c (.slice ra_c_r_heldV c.r.held.length rc_c_r_heldV)⟩], [], [slF (.slice ra_c_r_heldV c.r.held.length rc_c_r_heldV) 2 (c.r.held.map pceCells)]⟩ (by kernel_rfl) ?_
            refine xw_seq ?_
            refine xw_seq ?_
            refine xw_region ?_
            refine xl_end [1, 3, 37] ⟨[(1, .p 0 0), (3, .v (.int .i64 3)), (37, .v (.bool (c.state == 7)))], [⟨42, conL c (.slice ra_c_r_heldV c.r.held.length rc_c_r_heldV)⟩], [], [slF (.slice ra_c_r_heldV c.r.held.length rc_c_r_heldV) 2 (c.r.held.map pceCells)]⟩ (by kernel_rfl) ?_
            refine xw_join ⟨[(1, .p 0 0), (3, .v (.int .i64 (if (c.state == 7) = true then 4 else 3)))], [⟨42, conL c (.slice ra_c_r_heldV c.r.held.length rc_c_r_heldV)⟩], [], [slF (.slice ra_c_r_heldV c.r.held.length rc_c_r_heldV) 2 (c.r.held.map pceCells)]⟩ ?_ ?_
            · refine xw_cond (b := c.state == 7) (by kernel_rfl) (fun h6 => ?_) (fun h6 => ?_)
              · skip
                have h6p := h6; simp only [beq_iff_eq, bne_iff_ne, beq_eq_false_iff_ne, bne_eq_false_iff_eq, ne_eq, toList_lit0] at h6p
                refine xw_region ?_
                refine xl_end [1, 3] ⟨[(1, .p 0 0), (3, .v (.int .i64 4))], [⟨42, conL c (.slice ra_c_r_heldV c.r.held.length rc_c_r_heldV)⟩], [], [slF (.slice ra_c_r_heldV c.r.held.length rc_c_r_heldV) 2 (c.r.held.map pceCells)]⟩ (by kernel_rfl) ?_
                show Wk _ _; rw [h6]; exact wk_forget 1 0 [1, 3] (by kernel_rfl) (by kernel_rfl) (by kernel_rfl)
              · skip
                have h6p := h6; simp only [beq_iff_eq, bne_iff_ne, beq_eq_false_iff_ne, bne_eq_false_iff_eq, ne_eq, toList_lit0] at h6p
                refine xw_skip ?_
                show Wk _ _; rw [h6]; exact wk_forget 1 0 [1, 3] (by kernel_rfl) (by kernel_rfl) (by kernel_rfl)
            · skip
              refine xw_seq ?_
              refine xw_seq ?_
              refine xw_region ?_
              refine xl_call 2 [1, 3, 39] ⟨[(1, .p 0 0), (3, .v (.int .i64 (if (c.state == 7) = true then 4 else 3))), (39, .v (.int .i64 c.most))], [⟨42, conL c (.slice ra_c_r_heldV c.r.held.length rc_c_r_heldV)⟩], [], [slF (.slice ra_c_r_heldV c.r.held.length rc_c_r_heldV) 2 (c.r.held.map pceCells)]⟩ 92 [.int .i64 c.most, .int .i64 0, .int .i64 1073725440] (some 40) (by kernel_rfl) rfl (by kernel_rfl) rfl (by kernel_rfl) (xc_s fun ww hf => within_c c.most 0 1073725440 ww ) ?_
              intro _
              refine xl_run 2 [1, 3, 42] ⟨[(1, .p 0 0), (3, .v (.int .i64 (if (c.state == 7) = true then 4 else 3))), (42, .v (.bool (!(inB c.most 0 1073725440))))], [⟨42, conL c (.slice ra_c_r_heldV c.r.held.length rc_c_r_heldV)⟩], [], [slF (.slice ra_c_r_heldV c.r.held.length rc_c_r_heldV) 2 (c.r.held.map pceCells)]⟩ (by kernel_rfl) ?_
              refine xl_split 42 (b := !(inB c.most 0 1073725440)) (by kernel_rfl) (fun h7 => ?_) (fun h7 => ?_)
              · skip
                refine xl_end [1, 62] ⟨[(1, .p 0 0), (62, .v (.bool true))], [⟨42, conL c (.slice ra_c_r_heldV c.r.held.length rc_c_r_heldV)⟩], [], [slF (.slice ra_c_r_heldV c.r.held.length rc_c_r_heldV) 2 (c.r.held.map pceCells)]⟩ (by kernel_rfl) ?_
                refine xw_true (by kernel_rfl) ?_
                refine xw_seq ?_
                refine xw_region ?_
                refine xl_end [2] ⟨[(2, .v (.bool false))], [⟨42, conL c (.slice ra_c_r_heldV c.r.held.length rc_c_r_heldV)⟩], [], [slF (.slice ra_c_r_heldV c.r.held.length rc_c_r_heldV) 2 (c.r.held.map pceCells)]⟩ (by kernel_rfl) ?_
                refine xw_ret ?_
                exact ⟨[.bool false], by kernel_rfl, fun w' hb hf => ⟨ret_bool (show (false : Bool) = conOk c from by first | rfl | (simp [conOk, conPre, conMid, stateFits, *]; done) | (clear hm hf hb; simp_all [conOk, conPre, conMid, stateFits]; done) | grind [conOk, conPre, conMid, stateFits, inB]), hb⟩⟩
              · skip
                refine xl_call 4 [1, 3, 42, 44, 46] ⟨[(1, .p 0 0), (3, .v (.int .i64 (if (c.state == 7) = true then 4 else 3))), (42, .v (.bool false)), (44, .v (.int .i64 c.window)), (46, .v (.int .i64 c.most))], [⟨42, conL c (.slice ra_c_r_heldV c.r.held.length rc_c_r_heldV)⟩], [], [slF (.slice ra_c_r_heldV c.r.held.length rc_c_r_heldV) 2 (c.r.held.map pceCells)]⟩ 92 [.int .i64 c.window, .int .i64 0, .int .i64 c.most] (some 47) (by kernel_rfl) rfl (by kernel_rfl) rfl (by kernel_rfl) (xc_s fun ww hf => within_c c.window 0 c.most ww ) ?_
                intro _
                refine xl_run 3 [1, 3, 50] ⟨[(1, .p 0 0), (3, .v (.int .i64 (if (c.state == 7) = true then 4 else 3))), (50, .v (.bool (!(inB c.window 0 c.most))))], [⟨42, conL c (.slice ra_c_r_heldV c.r.held.length rc_c_r_heldV)⟩], [], [slF (.slice ra_c_r_heldV c.r.held.length rc_c_r_heldV) 2 (c.r.held.map pceCells)]⟩ (by kernel_rfl) ?_
                refine xl_split 50 (b := !(inB c.window 0 c.most)) (by kernel_rfl) (fun h8 => ?_) (fun h8 => ?_)
                · skip
                  refine xl_end [1, 62] ⟨[(1, .p 0 0), (62, .v (.bool true))], [⟨42, conL c (.slice ra_c_r_heldV c.r.held.length rc_c_r_heldV)⟩], [], [slF (.slice ra_c_r_heldV c.r.held.length rc_c_r_heldV) 2 (c.r.held.map pceCells)]⟩ (by kernel_rfl) ?_
                  refine xw_true (by kernel_rfl) ?_
                  refine xw_seq ?_
                  refine xw_region ?_
                  refine xl_end [2] ⟨[(2, .v (.bool false))], [⟨42, conL c (.slice ra_c_r_heldV c.r.held.length rc_c_r_heldV)⟩], [], [slF (.slice ra_c_r_heldV c.r.held.length rc_c_r_heldV) 2 (c.r.held.map pceCells)]⟩ (by kernel_rfl) ?_
                  refine xw_ret ?_
                  exact ⟨[.bool false], by kernel_rfl, fun w' hb hf => ⟨ret_bool (show (false : Bool) = conOk c from by first | rfl | (simp [conOk, conPre, conMid, stateFits, *]; done) | (clear hm hf hb; simp_all [conOk, conPre, conMid, stateFits]; done) | grind [conOk, conPre, conMid, stateFits, inB]), hb⟩⟩
                · skip
                  refine xl_call 3 [1, 50, 52, 53] ⟨[(1, .p 0 0), (50, .v (.bool false)), (52, .v (.int .i64 c.timer)), (53, .v (.int .i64 (if (c.state == 7) = true then 4 else 3)))], [⟨42, conL c (.slice ra_c_r_heldV c.r.held.length rc_c_r_heldV)⟩], [], [slF (.slice ra_c_r_heldV c.r.held.length rc_c_r_heldV) 2 (c.r.held.map pceCells)]⟩ 92 [.int .i64 c.timer, .int .i64 0, .int .i64 (if (c.state == 7) = true then 4 else 3)] (some 54) (by kernel_rfl) rfl (by kernel_rfl) rfl (by kernel_rfl) (xc_s fun ww hf => within_c c.timer 0 (if (c.state == 7) = true then 4 else 3) ww ) ?_
                  intro _
                  refine xl_run 3 [1, 57] ⟨[(1, .p 0 0), (57, .v (.bool (!(inB c.timer 0 (if (c.state == 7) = true then 4 else 3)))))], [⟨42, conL c (.slice ra_c_r_heldV c.r.held.length rc_c_r_heldV)⟩], [], [slF (.slice ra_c_r_heldV c.r.held.length rc_c_r_heldV) 2 (c.r.held.map pceCells)]⟩ (by kernel_rfl) ?_
                  refine xl_split 57 (b := !(inB c.timer 0 (if (c.state == 7) = true then 4 else 3))) (by kernel_rfl) (fun h9 => ?_) (fun h9 => ?_)
                  · skip
                    refine xl_end [1, 62] ⟨[(1, .p 0 0), (62, .v (.bool true))], [⟨42, conL c (.slice ra_c_r_heldV c.r.held.length rc_c_r_heldV)⟩], [], [slF (.slice ra_c_r_heldV c.r.held.length rc_c_r_heldV) 2 (c.r.held.map pceCells)]⟩ (by kernel_rfl) ?_
                    refine xw_true (by kernel_rfl) ?_
                    refine xw_seq ?_
                    refine xw_region ?_
                    refine xl_end [2] ⟨[(2, .v (.bool false))], [⟨42, conL c (.slice ra_c_r_heldV c.r.held.length rc_c_r_heldV)⟩], [], [slF (.slice ra_c_r_heldV c.r.held.length rc_c_r_heldV) 2 (c.r.held.map pceCells)]⟩ (by kernel_rfl) ?_
                    refine xw_ret ?_
                    exact ⟨[.bool false], by kernel_rfl, fun w' hb hf => ⟨ret_bool (show (false : Bool) = conOk c from by first | rfl | (simp [conOk, conPre, conMid, stateFits, *]; done) | (clear hm hf hb; simp_all [conOk, conPre, conMid, stateFits]; done) | grind [conOk, conPre, conMid, stateFits, inB]), hb⟩⟩
                  · skip
                    refine xl_call 2 [1, 57, 59] ⟨[(1, .p 0 0), (57, .v (.bool false)), (59, .v (.int .i64 c.tries))], [⟨42, conL c (.slice ra_c_r_heldV c.r.held.length rc_c_r_heldV)⟩], [], [slF (.slice ra_c_r_heldV c.r.held.length rc_c_r_heldV) 2 (c.r.held.map pceCells)]⟩ 92 [.int .i64 c.tries, .int .i64 0, .int .i64 3] (some 60) (by kernel_rfl) rfl (by kernel_rfl) rfl (by kernel_rfl) (xc_s fun ww hf => within_c c.tries 0 3 ww ) ?_
                    intro _
                    refine xl_end [1, 62] ⟨[(1, .p 0 0), (62, .v (.bool (!(inB c.tries 0 3))))], [⟨42, conL c (.slice ra_c_r_heldV c.r.held.length rc_c_r_heldV)⟩], [], [slF (.slice ra_c_r_heldV c.r.held.length rc_c_r_heldV) 2 (c.r.held.map pceCells)]⟩ (by kernel_rfl) ?_
                    refine xw_cond (b := !(inB c.tries 0 3)) (by kernel_rfl) (fun h10 => ?_) (fun h10 => ?_)
                    · skip
                      refine xw_seq ?_
                      refine xw_region ?_
                      refine xl_end [2] ⟨[(2, .v (.bool false))], [⟨42, conL c (.slice ra_c_r_heldV c.r.held.length rc_c_r_heldV)⟩], [], [slF (.slice ra_c_r_heldV c.r.held.length rc_c_r_heldV) 2 (c.r.held.map pceCells)]⟩ (by kernel_rfl) ?_
                      refine xw_ret ?_
                      exact ⟨[.bool false], by kernel_rfl, fun w' hb hf => ⟨ret_bool (show (false : Bool) = conOk c from by first | rfl | (simp [conOk, conPre, conMid, stateFits, *]; done) | (clear hm hf hb; simp_all [conOk, conPre, conMid, stateFits]; done) | grind [conOk, conPre, conMid, stateFits, inB]), hb⟩⟩
                    · skip
                      refine xw_skip ?_
                      refine xw_seq ?_
                      refine xe_region [] (by kernel_rfl) (fun ρ σ => ?_)
                      refine xe_take 0 (.p 0 4) ⟨[(63, .p 0 4), (1, .p 0 0), (62, .v (.bool (!(inB c.tries 0 3))))], [⟨42, conL c (.slice ra_c_r_heldV c.r.held.length rc_c_r_heldV)⟩], [], [slF (.slice ra_c_r_heldV c.r.held.length rc_c_r_heldV) 2 (c.r.held.map pceCells)]⟩ rfl (by kernel_rfl) (by kernel_rfl) (by kernel_rfl) (fun _ _ h => h) (by kernel_rfl) (by kernel_rfl) rfl (by kernel_rfl) ?_
                      refine xe_take 1 (.p 0 7) ⟨[(64, .p 0 7), (63, .p 0 4), (1, .p 0 0), (62, .v (.bool (!(inB c.tries 0 3))))], [⟨42, conL c (.slice ra_c_r_heldV c.r.held.length rc_c_r_heldV)⟩], [], [slF (.slice ra_c_r_heldV c.r.held.length rc_c_r_heldV) 2 (c.r.held.map pceCells)]⟩ rfl (by kernel_rfl) (by kernel_rfl) (by kernel_rfl) (fun _ _ h => h) (by kernel_rfl) (by kernel_rfl) rfl (by kernel_rfl) ?_
                      refine xe_take 2 (.v (.bool c.s.fin)) ⟨[(65, .v (.bool c.s.fin)), (64, .p 0 7), (63, .p 0 4), (1, .p 0 0), (62, .v (.bool (!(inB c.tries 0 3))))], [⟨42, conL c (.slice ra_c_r_heldV c.r.held.length rc_c_r_heldV)⟩], [], [slF (.slice ra_c_r_heldV c.r.held.length rc_c_r_heldV) 2 (c.r.held.map pceCells)]⟩ rfl (by kernel_rfl) (by kernel_rfl) (by kernel_rfl) (fun _ _ h => h) (by kernel_rfl) (by kernel_rfl) rfl (by kernel_rfl) ?_
                      refine xe_take 3 (.p 0 4) ⟨[(66, .p 0 4), (65, .v (.bool c.s.fin)), (64, .p 0 7), (63, .p 0 4), (1, .p 0 0), (62, .v (.bool (!(inB c.tries 0 3))))], [⟨42, conL c (.slice ra_c_r_heldV c.r.held.length rc_c_r_heldV)⟩], [], [slF (.slice ra_c_r_heldV c.r.held.length rc_c_r_heldV) 2 (c.r.held.map pceCells)]⟩ rfl (by kernel_rfl) (by kernel_rfl) (by kernel_rfl) (fun _ _ h => h) (by kernel_rfl) (by kernel_rfl) rfl (by kernel_rfl) ?_
                      refine xe_take 4 (.p 0 9) ⟨[(67, .p 0 9), (66, .p 0 4), (65, .v (.bool c.s.fin)), (64, .p 0 7), (63, .p 0 4), (1, .p 0 0), (62, .v (.bool (!(inB c.tries 0 3))))], [⟨42, conL c (.slice ra_c_r_heldV c.r.held.length rc_c_r_heldV)⟩], [], [slF (.slice ra_c_r_heldV c.r.held.length rc_c_r_heldV) 2 (c.r.held.map pceCells)]⟩ rfl (by kernel_rfl) (by kernel_rfl) (by kernel_rfl) (fun _ _ h => h) (by kernel_rfl) (by kernel_rfl) rfl (by kernel_rfl) ?_
                      refine xe_take 5 (.v (.bool c.s.done)) ⟨[(68, .v (.bool c.s.done)), (67, .p 0 9), (66, .p 0 4), (65, .v (.bool c.s.fin)), (64, .p 0 7), (63, .p 0 4), (1, .p 0 0), (62, .v (.bool (!(inB c.tries 0 3))))], [⟨42, conL c (.slice ra_c_r_heldV c.r.held.length rc_c_r_heldV)⟩], [], [slF (.slice ra_c_r_heldV c.r.held.length rc_c_r_heldV) 2 (c.r.held.map pceCells)]⟩ rfl (by kernel_rfl) (by kernel_rfl) (by kernel_rfl) (fun _ _ h => h) (by kernel_rfl) (by kernel_rfl) rfl (by kernel_rfl) ?_
                      refine xe_take 6 (.p 0 10) ⟨[(69, .p 0 10), (68, .v (.bool c.s.done)), (67, .p 0 9), (66, .p 0 4), (65, .v (.bool c.s.fin)), (64, .p 0 7), (63, .p 0 4), (1, .p 0 0), (62, .v (.bool (!(inB c.tries 0 3))))], [⟨42, conL c (.slice ra_c_r_heldV c.r.held.length rc_c_r_heldV)⟩], [], [slF (.slice ra_c_r_heldV c.r.held.length rc_c_r_heldV) 2 (c.r.held.map pceCells)]⟩ rfl (by kernel_rfl) (by kernel_rfl) (by kernel_rfl) (fun _ _ h => h) (by kernel_rfl) (by kernel_rfl) rfl (by kernel_rfl) ?_
                      refine xe_take 7 (.p 0 14) ⟨[(70, .p 0 14), (69, .p 0 10), (68, .v (.bool c.s.done)), (67, .p 0 9), (66, .p 0 4), (65, .v (.bool c.s.fin)), (64, .p 0 7), (63, .p 0 4), (1, .p 0 0), (62, .v (.bool (!(inB c.tries 0 3))))], [⟨42, conL c (.slice ra_c_r_heldV c.r.held.length rc_c_r_heldV)⟩], [], [slF (.slice ra_c_r_heldV c.r.held.length rc_c_r_heldV) 2 (c.r.held.map pceCells)]⟩ rfl (by kernel_rfl) (by kernel_rfl) (by kernel_rfl) (fun _ _ h => h) (by kernel_rfl) (by kernel_rfl) rfl (by kernel_rfl) ?_
                      refine xe_take 8 (.v (.bool c.r.done)) ⟨[(71, .v (.bool c.r.done)), (70, .p 0 14), (69, .p 0 10), (68, .v (.bool c.s.done)), (67, .p 0 9), (66, .p 0 4), (65, .v (.bool c.s.fin)), (64, .p 0 7), (63, .p 0 4), (1, .p 0 0), (62, .v (.bool (!(inB c.tries 0 3))))], [⟨42, conL c (.slice ra_c_r_heldV c.r.held.length rc_c_r_heldV)⟩], [], [slF (.slice ra_c_r_heldV c.r.held.length rc_c_r_heldV) 2 (c.r.held.map pceCells)]⟩ rfl (by kernel_rfl) (by kernel_rfl) (by kernel_rfl) (fun _ _ h => h) (by kernel_rfl) (by kernel_rfl) rfl (by kernel_rfl) ?_
                      refine xe_take 9 (.v (.bool c.s.fin)) ⟨[(4, .v (.bool c.s.fin)), (71, .v (.bool c.r.done)), (70, .p 0 14), (69, .p 0 10), (68, .v (.bool c.s.done)), (67, .p 0 9), (66, .p 0 4), (65, .v (.bool c.s.fin)), (64, .p 0 7), (63, .p 0 4), (1, .p 0 0), (62, .v (.bool (!(inB c.tries 0 3))))], [⟨42, conL c (.slice ra_c_r_heldV c.r.held.length rc_c_r_heldV)⟩], [], [slF (.slice ra_c_r_heldV c.r.held.length rc_c_r_heldV) 2 (c.r.held.map pceCells)]⟩ rfl (by kernel_rfl) (by kernel_rfl) (by kernel_rfl) (fun _ _ h => h) (by kernel_rfl) (by kernel_rfl) rfl (by kernel_rfl) ?_
                      refine xe_take 10 (.v (.bool c.s.done)) ⟨[(5, .v (.bool c.s.done)), (4, .v (.bool c.s.fin)), (71, .v (.bool c.r.done)), (70, .p 0 14), (69, .p 0 10), (68, .v (.bool c.s.done)), (67, .p 0 9), (66, .p 0 4), (65, .v (.bool c.s.fin)), (64, .p 0 7), (63, .p 0 4), (1, .p 0 0), (62, .v (.bool (!(inB c.tries 0 3))))], [⟨42, conL c (.slice ra_c_r_heldV c.r.held.length rc_c_r_heldV)⟩], [], [slF (.slice ra_c_r_heldV c.r.held.length rc_c_r_heldV) 2 (c.r.held.map pceCells)]⟩ rfl (by kernel_rfl) (by kernel_rfl) (by kernel_rfl) (fun _ _ h => h) (by kernel_rfl) (by kernel_rfl) rfl (by kernel_rfl) ?_
                      refine xe_take 11 (.v (.bool c.r.done)) ⟨[(6, .v (.bool c.r.done)), (5, .v (.bool c.s.done)), (4, .v (.bool c.s.fin)), (71, .v (.bool c.r.done)), (70, .p 0 14), (69, .p 0 10), (68, .v (.bool c.s.done)), (67, .p 0 9), (66, .p 0 4), (65, .v (.bool c.s.fin)), (64, .p 0 7), (63, .p 0 4), (1, .p 0 0), (62, .v (.bool (!(inB c.tries 0 3))))], [⟨42, conL c (.slice ra_c_r_heldV c.r.held.length rc_c_r_heldV)⟩], [], [slF (.slice ra_c_r_heldV c.r.held.length rc_c_r_heldV) 2 (c.r.held.map pceCells)]⟩ rfl (by kernel_rfl) (by kernel_rfl) (by kernel_rfl) (fun _ _ h => h) (by kernel_rfl) (by kernel_rfl) rfl (by kernel_rfl) ?_
                      refine xe_done (by kernel_rfl) ?_
                      refine xw_seq ?_
                      refine xw_seq ?_
                      refine xw_region ?_
                      refine xl_end [4, 5, 6, 73] ⟨[(4, .v (.bool c.s.fin)), (5, .v (.bool c.s.done)), (6, .v (.bool c.r.done)), (73, .v (.int .i64 c.state))], [⟨42, conL c (.slice ra_c_r_heldV c.r.held.length rc_c_r_heldV)⟩], [], [slF (.slice ra_c_r_heldV c.r.held.length rc_c_r_heldV) 2 (c.r.held.map pceCells)]⟩ (by kernel_rfl) ?_
                      refine xw_block ?_
                      refine xw_seq ?_
                      refine xw_region ?_
                      refine xl_end [4, 5, 6, 73, 74] ⟨[(4, .v (.bool c.s.fin)), (5, .v (.bool c.s.done)), (6, .v (.bool c.r.done)), (73, .v (.int .i64 c.state)), (74, .v (.bool (c.state == 1)))], [⟨42, conL c (.slice ra_c_r_heldV c.r.held.length rc_c_r_heldV)⟩], [], [slF (.slice ra_c_r_heldV c.r.held.length rc_c_r_heldV) 2 (c.r.held.map pceCells)]⟩ (by kernel_rfl) ?_
                      refine xw_cond (b := c.state == 1) (by kernel_rfl) (fun h11 => ?_) (fun h11 => ?_)
                      · skip
                        have h11p := h11; simp only [beq_iff_eq, bne_iff_ne, beq_eq_false_iff_ne, bne_eq_false_iff_eq, ne_eq, toList_lit0] at h11p
                        refine xw_seq ?_
                        refine xw_region ?_
                        refine xl_run 3 [5, 6, 78] ⟨[(5, .v (.bool c.s.done)), (6, .v (.bool c.r.done)), (78, .v (.bool (!c.s.fin)))], [⟨42, conL c (.slice ra_c_r_heldV c.r.held.length rc_c_r_heldV)⟩], [], [slF (.slice ra_c_r_heldV c.r.held.length rc_c_r_heldV) 2 (c.r.held.map pceCells)]⟩ (by kernel_rfl) ?_
                        refine xl_split 78 (b := !c.s.fin) (by kernel_rfl) (fun h12 => ?_) (fun h12 => ?_)
                        · skip
                          refine xl_run 4 [6, 82] ⟨[(6, .v (.bool c.r.done)), (82, .v (.bool (!c.s.done)))], [⟨42, conL c (.slice ra_c_r_heldV c.r.held.length rc_c_r_heldV)⟩], [], [slF (.slice ra_c_r_heldV c.r.held.length rc_c_r_heldV) 2 (c.r.held.map pceCells)]⟩ (by kernel_rfl) ?_
                          refine xl_split 82 (b := !c.s.done) (by kernel_rfl) (fun h13 => ?_) (fun h13 => ?_)
                          · skip
                            refine xl_end [2] ⟨[(2, .v (.bool (!c.r.done)))], [⟨42, conL c (.slice ra_c_r_heldV c.r.held.length rc_c_r_heldV)⟩], [], [slF (.slice ra_c_r_heldV c.r.held.length rc_c_r_heldV) 2 (c.r.held.map pceCells)]⟩ (by kernel_rfl) ?_
                            refine xw_ret ?_
                            exact ⟨[.bool (!c.r.done)], by kernel_rfl, fun w' hb hf => ⟨ret_bool (show (!c.r.done : Bool) = conOk c from by first | rfl | (simp [conOk, conPre, conMid, stateFits, *]; done) | (clear hm hf hb; simp_all [conOk, conPre, conMid, stateFits]; done) | grind [conOk, conPre, conMid, stateFits, inB]), hb⟩⟩
                          · skip
                            refine xl_end [2] ⟨[(2, .v (.bool false))], [⟨42, conL c (.slice ra_c_r_heldV c.r.held.length rc_c_r_heldV)⟩], [], [slF (.slice ra_c_r_heldV c.r.held.length rc_c_r_heldV) 2 (c.r.held.map pceCells)]⟩ (by kernel_rfl) ?_
                            refine xw_ret ?_
                            exact ⟨[.bool false], by kernel_rfl, fun w' hb hf => ⟨ret_bool (show (false : Bool) = conOk c from by first | rfl | (simp [conOk, conPre, conMid, stateFits, *]; done) | (clear hm hf hb; simp_all [conOk, conPre, conMid, stateFits]; done) | grind [conOk, conPre, conMid, stateFits, inB]), hb⟩⟩
                        · skip
                          refine xl_end [2] ⟨[(2, .v (.bool false))], [⟨42, conL c (.slice ra_c_r_heldV c.r.held.length rc_c_r_heldV)⟩], [], [slF (.slice ra_c_r_heldV c.r.held.length rc_c_r_heldV) 2 (c.r.held.map pceCells)]⟩ (by kernel_rfl) ?_
                          refine xw_ret ?_
                          exact ⟨[.bool false], by kernel_rfl, fun w' hb hf => ⟨ret_bool (show (false : Bool) = conOk c from by first | rfl | (simp [conOk, conPre, conMid, stateFits, *]; done) | (clear hm hf hb; simp_all [conOk, conPre, conMid, stateFits]; done) | grind [conOk, conPre, conMid, stateFits, inB]), hb⟩⟩
                      · skip
                        have h11p := h11; simp only [beq_iff_eq, bne_iff_ne, beq_eq_false_iff_ne, bne_eq_false_iff_eq, ne_eq, toList_lit0] at h11p
                        refine xw_seq ?_
                        refine xw_region ?_
                        refine xl_end [4, 5, 6, 73, 86] ⟨[(4, .v (.bool c.s.fin)), (5, .v (.bool c.s.done)), (6, .v (.bool c.r.done)), (73, .v (.int .i64 c.state)), (86, .v (.bool (c.state == 2)))], [⟨42, conL c (.slice ra_c_r_heldV c.r.held.length rc_c_r_heldV)⟩], [], [slF (.slice ra_c_r_heldV c.r.held.length rc_c_r_heldV) 2 (c.r.held.map pceCells)]⟩ (by kernel_rfl) ?_
                        refine xw_cond (b := c.state == 2) (by kernel_rfl) (fun h14 => ?_) (fun h14 => ?_)
                        · skip
                          have h14p := h14; simp only [beq_iff_eq, bne_iff_ne, beq_eq_false_iff_ne, bne_eq_false_iff_eq, ne_eq, toList_lit0] at h14p
                          refine xw_seq ?_
                          refine xw_region ?_
                          refine xl_run 2 [5, 6, 89] ⟨[(5, .v (.bool c.s.done)), (6, .v (.bool c.r.done)), (89, .v (.bool c.s.fin))], [⟨42, conL c (.slice ra_c_r_heldV c.r.held.length rc_c_r_heldV)⟩], [], [slF (.slice ra_c_r_heldV c.r.held.length rc_c_r_heldV) 2 (c.r.held.map pceCells)]⟩ (by kernel_rfl) ?_
                          refine xl_split 89 (b := c.s.fin) (by kernel_rfl) (fun h15 => ?_) (fun h15 => ?_)
                          · skip
                            refine xl_run 4 [6, 93] ⟨[(6, .v (.bool c.r.done)), (93, .v (.bool (!c.s.done)))], [⟨42, conL c (.slice ra_c_r_heldV c.r.held.length rc_c_r_heldV)⟩], [], [slF (.slice ra_c_r_heldV c.r.held.length rc_c_r_heldV) 2 (c.r.held.map pceCells)]⟩ (by kernel_rfl) ?_
                            refine xl_split 93 (b := !c.s.done) (by kernel_rfl) (fun h16 => ?_) (fun h16 => ?_)
                            · skip
                              refine xl_end [2] ⟨[(2, .v (.bool (!c.r.done)))], [⟨42, conL c (.slice ra_c_r_heldV c.r.held.length rc_c_r_heldV)⟩], [], [slF (.slice ra_c_r_heldV c.r.held.length rc_c_r_heldV) 2 (c.r.held.map pceCells)]⟩ (by kernel_rfl) ?_
                              refine xw_ret ?_
                              exact ⟨[.bool (!c.r.done)], by kernel_rfl, fun w' hb hf => ⟨ret_bool (show (!c.r.done : Bool) = conOk c from by first | rfl | (simp [conOk, conPre, conMid, stateFits, *]; done) | (clear hm hf hb; simp_all [conOk, conPre, conMid, stateFits]; done) | grind [conOk, conPre, conMid, stateFits, inB]), hb⟩⟩
                            · skip
                              refine xl_end [2] ⟨[(2, .v (.bool false))], [⟨42, conL c (.slice ra_c_r_heldV c.r.held.length rc_c_r_heldV)⟩], [], [slF (.slice ra_c_r_heldV c.r.held.length rc_c_r_heldV) 2 (c.r.held.map pceCells)]⟩ (by kernel_rfl) ?_
                              refine xw_ret ?_
                              exact ⟨[.bool false], by kernel_rfl, fun w' hb hf => ⟨ret_bool (show (false : Bool) = conOk c from by first | rfl | (simp [conOk, conPre, conMid, stateFits, *]; done) | (clear hm hf hb; simp_all [conOk, conPre, conMid, stateFits]; done) | grind [conOk, conPre, conMid, stateFits, inB]), hb⟩⟩
                          · skip
                            refine xl_end [2] ⟨[(2, .v (.bool false))], [⟨42, conL c (.slice ra_c_r_heldV c.r.held.length rc_c_r_heldV)⟩], [], [slF (.slice ra_c_r_heldV c.r.held.length rc_c_r_heldV) 2 (c.r.held.map pceCells)]⟩ (by kernel_rfl) ?_
                            refine xw_ret ?_
                            exact ⟨[.bool false], by kernel_rfl, fun w' hb hf => ⟨ret_bool (show (false : Bool) = conOk c from by first | rfl | (simp [conOk, conPre, conMid, stateFits, *]; done) | (clear hm hf hb; simp_all [conOk, conPre, conMid, stateFits]; done) | grind [conOk, conPre, conMid, stateFits, inB]), hb⟩⟩
                        · skip
                          have h14p := h14; simp only [beq_iff_eq, bne_iff_ne, beq_eq_false_iff_ne, bne_eq_false_iff_eq, ne_eq, toList_lit0] at h14p
                          refine xw_seq ?_
                          refine xw_region ?_
                          refine xl_end [4, 5, 6, 73, 97] ⟨[(4, .v (.bool c.s.fin)), (5, .v (.bool c.s.done)), (6, .v (.bool c.r.done)), (73, .v (.int .i64 c.state)), (97, .v (.bool (c.state == 3)))], [⟨42, conL c (.slice ra_c_r_heldV c.r.held.length rc_c_r_heldV)⟩], [], [slF (.slice ra_c_r_heldV c.r.held.length rc_c_r_heldV) 2 (c.r.held.map pceCells)]⟩ (by kernel_rfl) ?_
                          refine xw_cond (b := c.state == 3) (by kernel_rfl) (fun h17 => ?_) (fun h17 => ?_)
                          · skip
                            have h17p := h17; simp only [beq_iff_eq, bne_iff_ne, beq_eq_false_iff_ne, bne_eq_false_iff_eq, ne_eq, toList_lit0] at h17p
                            refine xw_seq ?_
                            refine xw_region ?_
                            refine xl_run 2 [5, 6, 100] ⟨[(5, .v (.bool c.s.done)), (6, .v (.bool c.r.done)), (100, .v (.bool c.s.fin))], [⟨42, conL c (.slice ra_c_r_heldV c.r.held.length rc_c_r_heldV)⟩], [], [slF (.slice ra_c_r_heldV c.r.held.length rc_c_r_heldV) 2 (c.r.held.map pceCells)]⟩ (by kernel_rfl) ?_
                            refine xl_split 100 (b := c.s.fin) (by kernel_rfl) (fun h18 => ?_) (fun h18 => ?_)
                            · skip
                              refine xl_run 3 [6, 103] ⟨[(6, .v (.bool c.r.done)), (103, .v (.bool c.s.done))], [⟨42, conL c (.slice ra_c_r_heldV c.r.held.length rc_c_r_heldV)⟩], [], [slF (.slice ra_c_r_heldV c.r.held.length rc_c_r_heldV) 2 (c.r.held.map pceCells)]⟩ (by kernel_rfl) ?_
                              refine xl_split 103 (b := c.s.done) (by kernel_rfl) (fun h19 => ?_) (fun h19 => ?_)
                              · skip
                                refine xl_end [2] ⟨[(2, .v (.bool (!c.r.done)))], [⟨42, conL c (.slice ra_c_r_heldV c.r.held.length rc_c_r_heldV)⟩], [], [slF (.slice ra_c_r_heldV c.r.held.length rc_c_r_heldV) 2 (c.r.held.map pceCells)]⟩ (by kernel_rfl) ?_
                                refine xw_ret ?_
                                exact ⟨[.bool (!c.r.done)], by kernel_rfl, fun w' hb hf => ⟨ret_bool (show (!c.r.done : Bool) = conOk c from by first | rfl | (simp [conOk, conPre, conMid, stateFits, *]; done) | (clear hm hf hb; simp_all [conOk, conPre, conMid, stateFits]; done) | grind [conOk, conPre, conMid, stateFits, inB]), hb⟩⟩
                              · skip
                                refine xl_end [2] ⟨[(2, .v (.bool false))], [⟨42, conL c (.slice ra_c_r_heldV c.r.held.length rc_c_r_heldV)⟩], [], [slF (.slice ra_c_r_heldV c.r.held.length rc_c_r_heldV) 2 (c.r.held.map pceCells)]⟩ (by kernel_rfl) ?_
                                refine xw_ret ?_
                                exact ⟨[.bool false], by kernel_rfl, fun w' hb hf => ⟨ret_bool (show (false : Bool) = conOk c from by first | rfl | (simp [conOk, conPre, conMid, stateFits, *]; done) | (clear hm hf hb; simp_all [conOk, conPre, conMid, stateFits]; done) | grind [conOk, conPre, conMid, stateFits, inB]), hb⟩⟩
                            · skip
                              refine xl_end [2] ⟨[(2, .v (.bool false))], [⟨42, conL c (.slice ra_c_r_heldV c.r.held.length rc_c_r_heldV)⟩], [], [slF (.slice ra_c_r_heldV c.r.held.length rc_c_r_heldV) 2 (c.r.held.map pceCells)]⟩ (by kernel_rfl) ?_
                              refine xw_ret ?_
                              exact ⟨[.bool false], by kernel_rfl, fun w' hb hf => ⟨ret_bool (show (false : Bool) = conOk c from by first | rfl | (simp [conOk, conPre, conMid, stateFits, *]; done) | (clear hm hf hb; simp_all [conOk, conPre, conMid, stateFits]; done) | grind [conOk, conPre, conMid, stateFits, inB]), hb⟩⟩
                          · skip
                            have h17p := h17; simp only [beq_iff_eq, bne_iff_ne, beq_eq_false_iff_ne, bne_eq_false_iff_eq, ne_eq, toList_lit0] at h17p
                            refine xw_seq ?_
                            refine xw_region ?_
                            refine xl_end [4, 5, 6, 73, 107] ⟨[(4, .v (.bool c.s.fin)), (5, .v (.bool c.s.done)), (6, .v (.bool c.r.done)), (73, .v (.int .i64 c.state)), (107, .v (.bool (c.state == 4)))], [⟨42, conL c (.slice ra_c_r_heldV c.r.held.length rc_c_r_heldV)⟩], [], [slF (.slice ra_c_r_heldV c.r.held.length rc_c_r_heldV) 2 (c.r.held.map pceCells)]⟩ (by kernel_rfl) ?_
                            refine xw_cond (b := c.state == 4) (by kernel_rfl) (fun h20 => ?_) (fun h20 => ?_)
                            · skip
                              have h20p := h20; simp only [beq_iff_eq, bne_iff_ne, beq_eq_false_iff_ne, bne_eq_false_iff_eq, ne_eq, toList_lit0] at h20p
                              refine xw_seq ?_
                              refine xw_region ?_
                              refine xl_run 3 [5, 6, 111] ⟨[(5, .v (.bool c.s.done)), (6, .v (.bool c.r.done)), (111, .v (.bool (!c.s.fin)))], [⟨42, conL c (.slice ra_c_r_heldV c.r.held.length rc_c_r_heldV)⟩], [], [slF (.slice ra_c_r_heldV c.r.held.length rc_c_r_heldV) 2 (c.r.held.map pceCells)]⟩ (by kernel_rfl) ?_
                              refine xl_split 111 (b := !c.s.fin) (by kernel_rfl) (fun h21 => ?_) (fun h21 => ?_)
                              · skip
                                refine xl_run 4 [6, 115] ⟨[(6, .v (.bool c.r.done)), (115, .v (.bool (!c.s.done)))], [⟨42, conL c (.slice ra_c_r_heldV c.r.held.length rc_c_r_heldV)⟩], [], [slF (.slice ra_c_r_heldV c.r.held.length rc_c_r_heldV) 2 (c.r.held.map pceCells)]⟩ (by kernel_rfl) ?_
                                refine xl_split 115 (b := !c.s.done) (by kernel_rfl) (fun h22 => ?_) (fun h22 => ?_)
                                · skip
                                  refine xl_end [2] ⟨[(2, .v (.bool c.r.done))], [⟨42, conL c (.slice ra_c_r_heldV c.r.held.length rc_c_r_heldV)⟩], [], [slF (.slice ra_c_r_heldV c.r.held.length rc_c_r_heldV) 2 (c.r.held.map pceCells)]⟩ (by kernel_rfl) ?_
                                  refine xw_ret ?_
                                  exact ⟨[.bool c.r.done], by kernel_rfl, fun w' hb hf => ⟨ret_bool (show (c.r.done : Bool) = conOk c from by first | rfl | (simp [conOk, conPre, conMid, stateFits, *]; done) | (clear hm hf hb; simp_all [conOk, conPre, conMid, stateFits]; done) | grind [conOk, conPre, conMid, stateFits, inB]), hb⟩⟩
                                · skip
                                  refine xl_end [2] ⟨[(2, .v (.bool false))], [⟨42, conL c (.slice ra_c_r_heldV c.r.held.length rc_c_r_heldV)⟩], [], [slF (.slice ra_c_r_heldV c.r.held.length rc_c_r_heldV) 2 (c.r.held.map pceCells)]⟩ (by kernel_rfl) ?_
                                  refine xw_ret ?_
                                  exact ⟨[.bool false], by kernel_rfl, fun w' hb hf => ⟨ret_bool (show (false : Bool) = conOk c from by first | rfl | (simp [conOk, conPre, conMid, stateFits, *]; done) | (clear hm hf hb; simp_all [conOk, conPre, conMid, stateFits]; done) | grind [conOk, conPre, conMid, stateFits, inB]), hb⟩⟩
                              · skip
                                refine xl_end [2] ⟨[(2, .v (.bool false))], [⟨42, conL c (.slice ra_c_r_heldV c.r.held.length rc_c_r_heldV)⟩], [], [slF (.slice ra_c_r_heldV c.r.held.length rc_c_r_heldV) 2 (c.r.held.map pceCells)]⟩ (by kernel_rfl) ?_
                                refine xw_ret ?_
                                exact ⟨[.bool false], by kernel_rfl, fun w' hb hf => ⟨ret_bool (show (false : Bool) = conOk c from by first | rfl | (simp [conOk, conPre, conMid, stateFits, *]; done) | (clear hm hf hb; simp_all [conOk, conPre, conMid, stateFits]; done) | grind [conOk, conPre, conMid, stateFits, inB]), hb⟩⟩
                            · skip
                              have h20p := h20; simp only [beq_iff_eq, bne_iff_ne, beq_eq_false_iff_ne, bne_eq_false_iff_eq, ne_eq, toList_lit0] at h20p
                              refine xw_seq ?_
                              refine xw_seq ?_
                              refine xw_region ?_
                              refine xl_end [4, 5, 6, 73, 118] ⟨[(4, .v (.bool c.s.fin)), (5, .v (.bool c.s.done)), (6, .v (.bool c.r.done)), (73, .v (.int .i64 c.state)), (118, .v (.bool (c.state == 5)))], [⟨42, conL c (.slice ra_c_r_heldV c.r.held.length rc_c_r_heldV)⟩], [], [slF (.slice ra_c_r_heldV c.r.held.length rc_c_r_heldV) 2 (c.r.held.map pceCells)]⟩ (by kernel_rfl) ?_
                              refine xw_join ⟨[(4, .v (.bool c.s.fin)), (5, .v (.bool c.s.done)), (6, .v (.bool c.r.done)), (73, .v (.int .i64 c.state)), (118, .v (.bool (if (c.state == 5) = true then c.state == 5 else c.state == 6)))], [⟨42, conL c (.slice ra_c_r_heldV c.r.held.length rc_c_r_heldV)⟩], [], [slF (.slice ra_c_r_heldV c.r.held.length rc_c_r_heldV) 2 (c.r.held.map pceCells)]⟩ ?_ ?_
                              · refine xw_cond (b := c.state == 5) (by kernel_rfl) (fun h23 => ?_) (fun h23 => ?_)
                                · skip
                                  have h23p := h23; simp only [beq_iff_eq, bne_iff_ne, beq_eq_false_iff_ne, bne_eq_false_iff_eq, ne_eq, toList_lit0] at h23p
                                  refine xw_skip ?_
                                  show Wk _ _; rw [h23]; exact wk_forget 1 0 [4, 5, 6, 73, 118] (by kernel_rfl) (by kernel_rfl) (by kernel_rfl)
                                · skip
                                  have h23p := h23; simp only [beq_iff_eq, bne_iff_ne, beq_eq_false_iff_ne, bne_eq_false_iff_eq, ne_eq, toList_lit0] at h23p
                                  refine xw_region ?_
                                  refine xl_end [4, 5, 6, 73, 118] ⟨[(4, .v (.bool c.s.fin)), (5, .v (.bool c.s.done)), (6, .v (.bool c.r.done)), (73, .v (.int .i64 c.state)), (118, .v (.bool (c.state == 6)))], [⟨42, conL c (.slice ra_c_r_heldV c.r.held.length rc_c_r_heldV)⟩], [], [slF (.slice ra_c_r_heldV c.r.held.length rc_c_r_heldV) 2 (c.r.held.map pceCells)]⟩ (by kernel_rfl) ?_
                                  show Wk _ _; rw [h23]; exact wk_forget 1 0 [4, 5, 6, 73, 118] (by kernel_rfl) (by kernel_rfl) (by kernel_rfl)
                              · skip
                                refine xw_cond (b := if (c.state == 5) = true then c.state == 5 else c.state == 6) (by kernel_rfl) (fun h24 => ?_) (fun h24 => ?_)
                                · skip
                                  have h24p := h24; simp only [beq_iff_eq, bne_iff_ne, beq_eq_false_iff_ne, bne_eq_false_iff_eq, ne_eq, toList_lit0] at h24p
                                  refine xw_seq ?_
                                  refine xw_region ?_
                                  refine xl_run 2 [5, 6, 122] ⟨[(5, .v (.bool c.s.done)), (6, .v (.bool c.r.done)), (122, .v (.bool c.s.fin))], [⟨42, conL c (.slice ra_c_r_heldV c.r.held.length rc_c_r_heldV)⟩], [], [slF (.slice ra_c_r_heldV c.r.held.length rc_c_r_heldV) 2 (c.r.held.map pceCells)]⟩ (by kernel_rfl) ?_
                                  refine xl_split 122 (b := c.s.fin) (by kernel_rfl) (fun h25 => ?_) (fun h25 => ?_)
                                  · skip
                                    refine xl_run 4 [6, 126] ⟨[(6, .v (.bool c.r.done)), (126, .v (.bool (!c.s.done)))], [⟨42, conL c (.slice ra_c_r_heldV c.r.held.length rc_c_r_heldV)⟩], [], [slF (.slice ra_c_r_heldV c.r.held.length rc_c_r_heldV) 2 (c.r.held.map pceCells)]⟩ (by kernel_rfl) ?_
                                    refine xl_split 126 (b := !c.s.done) (by kernel_rfl) (fun h26 => ?_) (fun h26 => ?_)
                                    · skip
                                      refine xl_end [2] ⟨[(2, .v (.bool c.r.done))], [⟨42, conL c (.slice ra_c_r_heldV c.r.held.length rc_c_r_heldV)⟩], [], [slF (.slice ra_c_r_heldV c.r.held.length rc_c_r_heldV) 2 (c.r.held.map pceCells)]⟩ (by kernel_rfl) ?_
                                      refine xw_ret ?_
                                      exact ⟨[.bool c.r.done], by kernel_rfl, fun w' hb hf => ⟨ret_bool (show (c.r.done : Bool) = conOk c from by first | rfl | (simp [conOk, conPre, conMid, stateFits, *]; done) | (clear hm hf hb; simp_all [conOk, conPre, conMid, stateFits]; done) | grind [conOk, conPre, conMid, stateFits, inB]), hb⟩⟩
                                    · skip
                                      refine xl_end [2] ⟨[(2, .v (.bool false))], [⟨42, conL c (.slice ra_c_r_heldV c.r.held.length rc_c_r_heldV)⟩], [], [slF (.slice ra_c_r_heldV c.r.held.length rc_c_r_heldV) 2 (c.r.held.map pceCells)]⟩ (by kernel_rfl) ?_
                                      refine xw_ret ?_
                                      exact ⟨[.bool false], by kernel_rfl, fun w' hb hf => ⟨ret_bool (show (false : Bool) = conOk c from by first | rfl | (simp [conOk, conPre, conMid, stateFits, *]; done) | (clear hm hf hb; simp_all [conOk, conPre, conMid, stateFits]; done) | grind [conOk, conPre, conMid, stateFits, inB]), hb⟩⟩
                                  · skip
                                    refine xl_end [2] ⟨[(2, .v (.bool false))], [⟨42, conL c (.slice ra_c_r_heldV c.r.held.length rc_c_r_heldV)⟩], [], [slF (.slice ra_c_r_heldV c.r.held.length rc_c_r_heldV) 2 (c.r.held.map pceCells)]⟩ (by kernel_rfl) ?_
                                    refine xw_ret ?_
                                    exact ⟨[.bool false], by kernel_rfl, fun w' hb hf => ⟨ret_bool (show (false : Bool) = conOk c from by first | rfl | (simp [conOk, conPre, conMid, stateFits, *]; done) | (clear hm hf hb; simp_all [conOk, conPre, conMid, stateFits]; done) | grind [conOk, conPre, conMid, stateFits, inB]), hb⟩⟩
                                · skip
                                  have h24p := h24; simp only [beq_iff_eq, bne_iff_ne, beq_eq_false_iff_ne, bne_eq_false_iff_eq, ne_eq, toList_lit0] at h24p
                                  refine xw_seq ?_
                                  refine xw_region ?_
                                  refine xl_end [4, 5, 6, 129] ⟨[(4, .v (.bool c.s.fin)), (5, .v (.bool c.s.done)), (6, .v (.bool c.r.done)), (129, .v (.bool (c.state == 7)))], [⟨42, conL c (.slice ra_c_r_heldV c.r.held.length rc_c_r_heldV)⟩], [], [slF (.slice ra_c_r_heldV c.r.held.length rc_c_r_heldV) 2 (c.r.held.map pceCells)]⟩ (by kernel_rfl) ?_
                                  refine xw_cond (b := c.state == 7) (by kernel_rfl) (fun h27 => ?_) (fun h27 => ?_)
                                  · skip
                                    have h27p := h27; simp only [beq_iff_eq, bne_iff_ne, beq_eq_false_iff_ne, bne_eq_false_iff_eq, ne_eq, toList_lit0] at h27p
                                    refine xw_seq ?_
                                    refine xw_region ?_
                                    refine xl_run 2 [5, 6, 132] ⟨[(5, .v (.bool c.s.done)), (6, .v (.bool c.r.done)), (132, .v (.bool c.s.fin))], [⟨42, conL c (.slice ra_c_r_heldV c.r.held.length rc_c_r_heldV)⟩], [], [slF (.slice ra_c_r_heldV c.r.held.length rc_c_r_heldV) 2 (c.r.held.map pceCells)]⟩ (by kernel_rfl) ?_
                                    refine xl_split 132 (b := c.s.fin) (by kernel_rfl) (fun h28 => ?_) (fun h28 => ?_)
                                    · skip
                                      refine xl_run 3 [6, 135] ⟨[(6, .v (.bool c.r.done)), (135, .v (.bool c.s.done))], [⟨42, conL c (.slice ra_c_r_heldV c.r.held.length rc_c_r_heldV)⟩], [], [slF (.slice ra_c_r_heldV c.r.held.length rc_c_r_heldV) 2 (c.r.held.map pceCells)]⟩ (by kernel_rfl) ?_
                                      refine xl_split 135 (b := c.s.done) (by kernel_rfl) (fun h29 => ?_) (fun h29 => ?_)
                                      · skip
                                        refine xl_end [2] ⟨[(2, .v (.bool c.r.done))], [⟨42, conL c (.slice ra_c_r_heldV c.r.held.length rc_c_r_heldV)⟩], [], [slF (.slice ra_c_r_heldV c.r.held.length rc_c_r_heldV) 2 (c.r.held.map pceCells)]⟩ (by kernel_rfl) ?_
                                        refine xw_ret ?_
                                        exact ⟨[.bool c.r.done], by kernel_rfl, fun w' hb hf => ⟨ret_bool (show (c.r.done : Bool) = conOk c from by first | rfl | (simp [conOk, conPre, conMid, stateFits, *]; done) | (clear hm hf hb; simp_all [conOk, conPre, conMid, stateFits]; done) | grind [conOk, conPre, conMid, stateFits, inB]), hb⟩⟩
                                      · skip
                                        refine xl_end [2] ⟨[(2, .v (.bool false))], [⟨42, conL c (.slice ra_c_r_heldV c.r.held.length rc_c_r_heldV)⟩], [], [slF (.slice ra_c_r_heldV c.r.held.length rc_c_r_heldV) 2 (c.r.held.map pceCells)]⟩ (by kernel_rfl) ?_
                                        refine xw_ret ?_
                                        exact ⟨[.bool false], by kernel_rfl, fun w' hb hf => ⟨ret_bool (show (false : Bool) = conOk c from by first | rfl | (simp [conOk, conPre, conMid, stateFits, *]; done) | (clear hm hf hb; simp_all [conOk, conPre, conMid, stateFits]; done) | grind [conOk, conPre, conMid, stateFits, inB]), hb⟩⟩
                                    · skip
                                      refine xl_end [2] ⟨[(2, .v (.bool false))], [⟨42, conL c (.slice ra_c_r_heldV c.r.held.length rc_c_r_heldV)⟩], [], [slF (.slice ra_c_r_heldV c.r.held.length rc_c_r_heldV) 2 (c.r.held.map pceCells)]⟩ (by kernel_rfl) ?_
                                      refine xw_ret ?_
                                      exact ⟨[.bool false], by kernel_rfl, fun w' hb hf => ⟨ret_bool (show (false : Bool) = conOk c from by first | rfl | (simp [conOk, conPre, conMid, stateFits, *]; done) | (clear hm hf hb; simp_all [conOk, conPre, conMid, stateFits]; done) | grind [conOk, conPre, conMid, stateFits, inB]), hb⟩⟩
                                  · skip
                                    have h27p := h27; simp only [beq_iff_eq, bne_iff_ne, beq_eq_false_iff_ne, bne_eq_false_iff_eq, ne_eq, toList_lit0] at h27p
                                    refine xw_skip ?_
                                    refine xw_seq ?_
                                    refine xw_region ?_
                                    refine xl_end [2] ⟨[(2, .v (.bool true))], [⟨42, conL c (.slice ra_c_r_heldV c.r.held.length rc_c_r_heldV)⟩], [], [slF (.slice ra_c_r_heldV c.r.held.length rc_c_r_heldV) 2 (c.r.held.map pceCells)]⟩ (by kernel_rfl) ?_
                                    refine xw_ret ?_
                                    exact ⟨[.bool true], by kernel_rfl, fun w' hb hf => ⟨ret_bool (show (true : Bool) = conOk c from by first | rfl | (simp [conOk, conPre, conMid, stateFits, *]; done) | (clear hm hf hb; simp_all [conOk, conPre, conMid, stateFits]; done) | grind [conOk, conPre, conMid, stateFits, inB]), hb⟩⟩
theorem yiWaits_c (c : Con) (c_r_heldV : Value) (w : World) (hl_c_r_heldV : Sl w c_r_heldV 2 (c.r.held.map pceCells)) (hm : ∀ p ∈ c.r.held, p.text.size ≤ 1048576) (hsz : c.r.data.size ≤ 4611686018427387904) : Calls Try.prog 116 #[.agg (conL c c_r_heldV).toArray] w fun e w' => e = .returned (.bool (waits c)) ∧ Below w.heap.size w w' := by
  obtain ⟨ra_c_r_heldV, rc_c_r_heldV, hv_c_r_heldV⟩ := hl_c_r_heldV.form
  rw [List.length_map] at hv_c_r_heldV; subst hv_c_r_heldV
  have hn_c_r_heldV := hl_c_r_heldV.len; rw [List.length_map] at hn_c_r_heldV
  refine x_calls (args := [.agg (conL c (.slice ra_c_r_heldV c.r.held.length rc_c_r_heldV)).toArray]) (fn := Try.f116) [slF (.slice ra_c_r_heldV c.r.held.length rc_c_r_heldV) 2 (c.r.held.map pceCells)] Try.func116 rfl Try.ntmps116 rfl (by simp only [List.mem_cons, List.not_mem_nil, or_false, forall_eq_or_imp, forall_eq]; exact ⟨rfl, hl_c_r_heldV⟩) ?_
  refine xw_seq ?_
  refine xw_region ?_
  refine xl_end [1] ⟨[(1, .p 0 0)], [⟨42, conL c (.slice ra_c_r_heldV c.r.held.length rc_c_r_heldV)⟩], [], [slF (.slice ra_c_r_heldV c.r.held.length rc_c_r_heldV) 2 (c.r.held.map pceCells)]⟩ (by kernel_rfl) ?_
  refine xw_seq ?_
  refine xw_region ?_
  refine xl_call 1 [1, 3] ⟨[(1, .p 0 0), (3, .v (.agg (conL c (.slice ra_c_r_heldV c.r.held.length rc_c_r_heldV)).toArray))], [⟨42, conL c (.slice ra_c_r_heldV c.r.held.length rc_c_r_heldV)⟩], [], [slF (.slice ra_c_r_heldV c.r.held.length rc_c_r_heldV) 2 (c.r.held.map pceCells)]⟩ 70 [.agg (conL c (.slice ra_c_r_heldV c.r.held.length rc_c_r_heldV)).toArray] (some 4) (by kernel_rfl) rfl (by kernel_rfl) rfl (by kernel_rfl) (xc_b fun ww hf => yiConnOk_c c (.slice ra_c_r_heldV c.r.held.length rc_c_r_heldV) ww (hf (slF (.slice ra_c_r_heldV c.r.held.length rc_c_r_heldV) 2 (c.r.held.map pceCells)) (by simp)) (by assumption) (by omega)) ?_
  intro _
  refine xl_run 1 [1, 5] ⟨[(1, .p 0 0), (5, .v (.bool (conOk c)))], [⟨42, conL c (.slice ra_c_r_heldV c.r.held.length rc_c_r_heldV)⟩], [], [slF (.slice ra_c_r_heldV c.r.held.length rc_c_r_heldV) 2 (c.r.held.map pceCells)]⟩ (by kernel_rfl) ?_
  refine xl_split 5 (b := conOk c) (by kernel_rfl) (fun h1 => ?_) (fun h1 => ?_)
  · skip
    refine xl_run 4 [1, 5, 9] ⟨[(1, .p 0 0), (5, .v (.bool true)), (9, .v (.bool (c.state == 7)))], [⟨42, conL c (.slice ra_c_r_heldV c.r.held.length rc_c_r_heldV)⟩], [], [slF (.slice ra_c_r_heldV c.r.held.length rc_c_r_heldV) 2 (c.r.held.map pceCells)]⟩ (by kernel_rfl) ?_
    refine xl_split 9 (b := c.state == 7) (by kernel_rfl) (fun h2 => ?_) (fun h2 => ?_)
    · skip
      have h2p := h2; simp only [beq_iff_eq, bne_iff_ne, beq_eq_false_iff_ne, bne_eq_false_iff_eq, ne_eq, toList_lit0] at h2p
      refine xl_end [2] ⟨[(2, .v (.bool true))], [⟨42, conL c (.slice ra_c_r_heldV c.r.held.length rc_c_r_heldV)⟩], [], [slF (.slice ra_c_r_heldV c.r.held.length rc_c_r_heldV) 2 (c.r.held.map pceCells)]⟩ (by kernel_rfl) ?_
      refine xw_ret ?_
      exact ⟨[.bool true], by kernel_rfl, fun w' hb hf => ⟨ret_bool (show (true : Bool) = waits c from by first | rfl | (simp [waits, *]; done) | grind [waits]), hb⟩⟩
    · skip
      have h2p := h2; simp only [beq_iff_eq, bne_iff_ne, beq_eq_false_iff_ne, bne_eq_false_iff_eq, ne_eq, toList_lit0] at h2p
      refine xl_run 4 [1, 5, 9, 13] ⟨[(1, .p 0 0), (5, .v (.bool true)), (9, .v (.bool false)), (13, .v (.bool (c.state != 8)))], [⟨42, conL c (.slice ra_c_r_heldV c.r.held.length rc_c_r_heldV)⟩], [], [slF (.slice ra_c_r_heldV c.r.held.length rc_c_r_heldV) 2 (c.r.held.map pceCells)]⟩ (by kernel_rfl) ?_
      refine xl_split 13 (b := c.state != 8) (by kernel_rfl) (fun h3 => ?_) (fun h3 => ?_)
      · skip
        have h3p := h3; simp only [beq_iff_eq, bne_iff_ne, beq_eq_false_iff_ne, bne_eq_false_iff_eq, ne_eq, toList_lit0] at h3p
        refine xl_call 1 [5, 9, 13, 14] ⟨[(5, .v (.bool true)), (9, .v (.bool false)), (13, .v (.bool true)), (14, .v (.agg (conL c (.slice ra_c_r_heldV c.r.held.length rc_c_r_heldV)).toArray))], [⟨42, conL c (.slice ra_c_r_heldV c.r.held.length rc_c_r_heldV)⟩], [], [slF (.slice ra_c_r_heldV c.r.held.length rc_c_r_heldV) 2 (c.r.held.map pceCells)]⟩ 18 [.agg (conL c (.slice ra_c_r_heldV c.r.held.length rc_c_r_heldV)).toArray] (some 15) (by kernel_rfl) rfl (by kernel_rfl) rfl (by kernel_rfl) (xc_b fun ww hf => yiUnsent_c c (.slice ra_c_r_heldV c.r.held.length rc_c_r_heldV) ww ) ?_
        intro _
        refine xl_end [2] ⟨[(2, .v (.bool (unsent c)))], [⟨42, conL c (.slice ra_c_r_heldV c.r.held.length rc_c_r_heldV)⟩], [], [slF (.slice ra_c_r_heldV c.r.held.length rc_c_r_heldV) 2 (c.r.held.map pceCells)]⟩ (by kernel_rfl) ?_
        refine xw_ret ?_
        exact ⟨[.bool (unsent c)], by kernel_rfl, fun w' hb hf => ⟨ret_bool (show (unsent c : Bool) = waits c from by first | rfl | (simp [waits, *]; done) | grind [waits]), hb⟩⟩
      · skip
        have h3p := h3; simp only [beq_iff_eq, bne_iff_ne, beq_eq_false_iff_ne, bne_eq_false_iff_eq, ne_eq, toList_lit0] at h3p
        refine xl_end [2] ⟨[(2, .v (.bool false))], [⟨42, conL c (.slice ra_c_r_heldV c.r.held.length rc_c_r_heldV)⟩], [], [slF (.slice ra_c_r_heldV c.r.held.length rc_c_r_heldV) 2 (c.r.held.map pceCells)]⟩ (by kernel_rfl) ?_
        refine xw_ret ?_
        exact ⟨[.bool false], by kernel_rfl, fun w' hb hf => ⟨ret_bool (show (false : Bool) = waits c from by first | rfl | (simp [waits, *]; done) | grind [waits]), hb⟩⟩
  · skip
    refine xl_end [2] ⟨[(2, .v (.bool false))], [⟨42, conL c (.slice ra_c_r_heldV c.r.held.length rc_c_r_heldV)⟩], [], [slF (.slice ra_c_r_heldV c.r.held.length rc_c_r_heldV) 2 (c.r.held.map pceCells)]⟩ (by kernel_rfl) ?_
    refine xw_ret ?_
    exact ⟨[.bool false], by kernel_rfl, fun w' hb hf => ⟨ret_bool (show (false : Bool) = waits c from by first | rfl | (simp [waits, *]; done) | grind [waits]), hb⟩⟩
end Go.Proofs.Ytjfamgkkenccdaa
