/- The law FnExactVerdict holds: for every argument the program's function answers true and leaves its arguments as they were. Conditions: none beyond the given row's. -/
import Derived.Test.YtjfamgkkenccdaaY4
namespace Go.Proofs.Ytjfamgkkenccdaa
open Go.RowKit Go.ChangeShapes Go.WideShapes Go.ChangeAt
set_option linter.unusedVariables false
set_option linter.unusedSimpArgs false

set_option maxRecDepth 100000 in
set_option maxHeartbeats 2000000 in
theorem fnExactVerdict_walk (c : Con) (c_r_heldV : Value) (g : Seg) (w : World) (hs_c_s_data : c.s.data.size ≤ maxLen) (hs_c_r_data : c.r.data.size ≤ maxLen) (hl_c_r_heldV : Sl w c_r_heldV 2 (c.r.held.map pceCells)) (hm_c_r_heldV : ∀ p ∈ c.r.held, p.text.size ≤ maxLen) (hs_g_body : g.body.size ≤ maxLen) : Calls Try.prog 4 #[.agg (conL c c_r_heldV).toArray, .agg (segL g).toArray] w fun e w' => e = .returned (.bool true) ∧ Below w.heap.size w w' := by
  obtain ⟨ra_c_r_heldV, rc_c_r_heldV, hv_c_r_heldV⟩ := hl_c_r_heldV.form
  rw [List.length_map] at hv_c_r_heldV; subst hv_c_r_heldV
  have hn_c_r_heldV := hl_c_r_heldV.len; rw [List.length_map] at hn_c_r_heldV
  refine x_calls (args := [.agg (conL c (.slice ra_c_r_heldV c.r.held.length rc_c_r_heldV)).toArray, .agg (segL g).toArray]) (fn := Try.f4) [slF (.slice ra_c_r_heldV c.r.held.length rc_c_r_heldV) 2 (c.r.held.map pceCells)] Try.func4 rfl Try.ntmps4 rfl (by simp only [List.mem_cons, List.not_mem_nil, or_false, forall_eq_or_imp, forall_eq]; exact ⟨rfl, hl_c_r_heldV⟩) ?_
  refine xw_seq ?_
  refine xw_region ?_
  refine xl_end [2, 3] ⟨[(2, .p 0 0), (3, .p 1 0)], [⟨32, conL c (.slice ra_c_r_heldV c.r.held.length rc_c_r_heldV)⟩, ⟨47, segL g⟩], [], [slF (.slice ra_c_r_heldV c.r.held.length rc_c_r_heldV) 2 (c.r.held.map pceCells)]⟩ (by kernel_rfl) ?_
  refine xw_seq ?_
  refine xw_region ?_
  refine xl_end [2, 3, 5] ⟨[(2, .p 0 0), (3, .p 1 0), (5, .v (.int .i64 1048576))], [⟨32, conL c (.slice ra_c_r_heldV c.r.held.length rc_c_r_heldV)⟩, ⟨47, segL g⟩], [], [slF (.slice ra_c_r_heldV c.r.held.length rc_c_r_heldV) 2 (c.r.held.map pceCells)]⟩ (by kernel_rfl) ?_
  refine xw_seq ?_
  refine xw_region ?_
  refine xl_call 2 [2, 3, 5, 9, 10] ⟨[(2, .p 0 0), (3, .p 1 0), (5, .v (.int .i64 1048576)), (9, .v (.agg (conL c (.slice ra_c_r_heldV c.r.held.length rc_c_r_heldV)).toArray)), (10, .v (.int .i64 1048576))], [⟨32, conL c (.slice ra_c_r_heldV c.r.held.length rc_c_r_heldV)⟩, ⟨47, segL g⟩], [], [slF (.slice ra_c_r_heldV c.r.held.length rc_c_r_heldV) 2 (c.r.held.map pceCells)]⟩ 15 [.agg (conL c (.slice ra_c_r_heldV c.r.held.length rc_c_r_heldV)).toArray, .int .i64 1048576] (some 11) (by kernel_rfl) rfl (by kernel_rfl) rfl (by kernel_rfl) (xc_e (α := Int) (F := fun y => .int .i64 y) (p := fun r => r = -1 ∨ (0 ≤ r ∧ r ≤ 1048576 ∧ ConFit 1048576 c)) fun ww hf => szConn_c c.t.ip c.t.port c.t.my c.state c.s.una c.s.data c.s.sent c.s.fin c.s.finSent c.s.done c.r.next c.r.data c.r.held (.slice ra_c_r_heldV c.r.held.length rc_c_r_heldV) c.r.fin c.r.done c.window c.most c.o.mss c.o.scale c.o.sack c.o.stamp c.o.val c.o.echo c.timer c.tries 1048576 ww (hf (slF (.slice ra_c_r_heldV c.r.held.length rc_c_r_heldV) 2 (c.r.held.map pceCells)) (by simp)) hm_c_r_heldV (by omega) (by omega) hs_c_r_data hs_c_s_data) ?_
  rintro ⟨r1, hr1⟩
  refine xl_end [2, 3, 5] ⟨[(2, .p 0 0), (3, .p 1 0), (5, .v (.int .i64 r1))], [⟨32, conL c (.slice ra_c_r_heldV c.r.held.length rc_c_r_heldV)⟩, ⟨47, segL g⟩], [], [slF (.slice ra_c_r_heldV c.r.held.length rc_c_r_heldV) 2 (c.r.held.map pceCells)]⟩ (by kernel_rfl) ?_
  refine xw_seq ?_
  refine xw_seq ?_
  refine xw_region ?_
  refine xl_end [2, 3, 5, 13] ⟨[(2, .p 0 0), (3, .p 1 0), (5, .v (.int .i64 r1)), (13, .v (.bool (decide (r1 < 0))))], [⟨32, conL c (.slice ra_c_r_heldV c.r.held.length rc_c_r_heldV)⟩, ⟨47, segL g⟩], [], [slF (.slice ra_c_r_heldV c.r.held.length rc_c_r_heldV) 2 (c.r.held.map pceCells)]⟩ (by kernel_rfl) ?_
  refine xw_cond (b := decide (r1 < 0)) (by kernel_rfl) (fun h2 => ?_) (fun h2 => ?_)
  · skip
    have h2p : (r1 < 0) := of_decide_eq_true h2
    refine xw_seq ?_
    refine xw_region ?_
    refine xl_end [4] ⟨[(4, .v (.bool true))], [⟨32, conL c (.slice ra_c_r_heldV c.r.held.length rc_c_r_heldV)⟩, ⟨47, segL g⟩], [], [slF (.slice ra_c_r_heldV c.r.held.length rc_c_r_heldV) 2 (c.r.held.map pceCells)]⟩ (by kernel_rfl) ?_
    refine xw_ret ?_
    exact ⟨[.bool true], by kernel_rfl, fun w' hb hf => ⟨rfl, hb⟩⟩
  · skip
    have h2p : ¬ (r1 < 0) := of_decide_eq_false h2
    rcases hr1 with hr1 | ⟨hr1a, hr1b, hr1c⟩
    · omega
    obtain ⟨hr11, hr12, hr13, hr14⟩ := hr1c
    have hmr1 : ∀ p ∈ c.r.held, p.text.size ≤ 1048576 := fun p hp => by have := hr14 p hp; omega
    refine xw_skip ?_
    refine xw_seq ?_
    refine xw_region ?_
    refine xl_call 2 [2, 3, 5, 14, 15] ⟨[(2, .p 0 0), (3, .p 1 0), (5, .v (.int .i64 r1)), (14, .v (.agg (segL g).toArray)), (15, .v (.int .i64 r1))], [⟨32, conL c (.slice ra_c_r_heldV c.r.held.length rc_c_r_heldV)⟩, ⟨47, segL g⟩], [], [slF (.slice ra_c_r_heldV c.r.held.length rc_c_r_heldV) 2 (c.r.held.map pceCells)]⟩ 20 [.agg (segL g).toArray, .int .i64 r1] (some 16) (by kernel_rfl) rfl (by kernel_rfl) rfl (by kernel_rfl) (xc_b fun ww hf => szSegment_c g.src g.dst g.seq g.ack g.flags g.window g.o.mss g.o.scale g.o.sack g.o.stamp g.o.val g.o.echo g.body r1 ww (by omega) (by omega) hs_g_body) ?_
    intro _
    refine xl_end [2, 3, 5] ⟨[(2, .p 0 0), (3, .p 1 0), (5, .v (.int .i64 (if (r1 : Int) < g.body.size then -1 else (r1 : Int) - g.body.size)))], [⟨32, conL c (.slice ra_c_r_heldV c.r.held.length rc_c_r_heldV)⟩, ⟨47, segL g⟩], [], [slF (.slice ra_c_r_heldV c.r.held.length rc_c_r_heldV) 2 (c.r.held.map pceCells)]⟩ (by kernel_rfl) ?_
    refine xw_seq ?_
    refine xw_seq ?_
    refine xw_region ?_
    refine xl_end [2, 3, 18] ⟨[(2, .p 0 0), (3, .p 1 0), (18, .v (.bool (decide ((if (r1 : Int) < g.body.size then -1 else (r1 : Int) - g.body.size) < 0))))], [⟨32, conL c (.slice ra_c_r_heldV c.r.held.length rc_c_r_heldV)⟩, ⟨47, segL g⟩], [], [slF (.slice ra_c_r_heldV c.r.held.length rc_c_r_heldV) 2 (c.r.held.map pceCells)]⟩ (by kernel_rfl) ?_
    refine xw_cond (b := decide ((if (r1 : Int) < g.body.size then -1 else (r1 : Int) - g.body.size) < 0)) (by kernel_rfl) (fun h3 => ?_) (fun h3 => ?_)
    · skip
      have h3p : ((if (r1 : Int) < g.body.size then -1 else (r1 : Int) - g.body.size) < 0) := of_decide_eq_true h3
      refine xw_seq ?_
      refine xw_region ?_
      refine xl_end [4] ⟨[(4, .v (.bool true))], [⟨32, conL c (.slice ra_c_r_heldV c.r.held.length rc_c_r_heldV)⟩, ⟨47, segL g⟩], [], [slF (.slice ra_c_r_heldV c.r.held.length rc_c_r_heldV) 2 (c.r.held.map pceCells)]⟩ (by kernel_rfl) ?_
      refine xw_ret ?_
      exact ⟨[.bool true], by kernel_rfl, fun w' hb hf => ⟨rfl, hb⟩⟩
    · skip
      have h3p : ¬ ((if (r1 : Int) < g.body.size then -1 else (r1 : Int) - g.body.size) < 0) := of_decide_eq_false h3
      have hsz_g : g.body.size ≤ 1048576 := by by_cases hh : r1 < (g.body.size : Int) <;> simp [hh] at h3; omega
      refine xw_skip ?_
      refine xw_seq ?_
      refine xe_region [] (by kernel_rfl) (fun ρ σ => ?_)
      refine xe_take 0 (.v (.agg (conL c (.slice ra_c_r_heldV c.r.held.length rc_c_r_heldV)).toArray)) ⟨[(19, .v (.agg (conL c (.slice ra_c_r_heldV c.r.held.length rc_c_r_heldV)).toArray)), (2, .p 0 0), (3, .p 1 0), (18, .v (.bool (decide ((if (r1 : Int) < g.body.size then -1 else (r1 : Int) - g.body.size) < 0))))], [⟨32, conL c (.slice ra_c_r_heldV c.r.held.length rc_c_r_heldV)⟩, ⟨47, segL g⟩], [], [slF (.slice ra_c_r_heldV c.r.held.length rc_c_r_heldV) 2 (c.r.held.map pceCells)]⟩ rfl (by kernel_rfl) (by kernel_rfl) (by kernel_rfl) (fun _ _ h => h) (by kernel_rfl) (by kernel_rfl) rfl (by kernel_rfl) ?_
      refine xe_take 2 (.v (.agg (segL g).toArray)) ⟨[(21, .v (.agg (segL g).toArray)), (19, .v (.agg (conL c (.slice ra_c_r_heldV c.r.held.length rc_c_r_heldV)).toArray)), (2, .p 0 0), (3, .p 1 0), (18, .v (.bool (decide ((if (r1 : Int) < g.body.size then -1 else (r1 : Int) - g.body.size) < 0))))], [⟨32, conL c (.slice ra_c_r_heldV c.r.held.length rc_c_r_heldV)⟩, ⟨47, segL g⟩], [], [slF (.slice ra_c_r_heldV c.r.held.length rc_c_r_heldV) 2 (c.r.held.map pceCells)]⟩ rfl (by kernel_rfl) (by kernel_rfl) (by kernel_rfl) (fun _ _ h => h) (by kernel_rfl) (by kernel_rfl) rfl (by kernel_rfl) ?_
      refine xe_all [1] (by kernel_rfl) (by simp) ?_
      refine xs_call 1 17 [.agg (conL c (.slice ra_c_r_heldV c.r.held.length rc_c_r_heldV)).toArray] (some 20) rfl (by kernel_rfl) rfl (by kernel_rfl) (xc_on (m := c.r.held.length) (F := fun v' => .agg (conL c v').toArray) (List.length_map ..) fun ww hf => toConn_c c.t.ip c.t.port c.t.my c.state c.s.una c.s.data c.s.sent c.s.fin c.s.finSent c.s.done c.r.next c.r.data c.r.held (.slice ra_c_r_heldV c.r.held.length rc_c_r_heldV) c.r.fin c.r.done c.window c.most c.o.mss c.o.scale c.o.sack c.o.stamp c.o.val c.o.echo c.timer c.tries ww (hf (slF (.slice ra_c_r_heldV c.r.held.length rc_c_r_heldV) 2 (c.r.held.map pceCells)) (by simp)) (by omega)) ?_
      rintro ⟨v4a, v4c⟩
      refine xe_all [3] (by kernel_rfl) (by simp) ?_
      refine xs_call 3 22 [.agg (segL g).toArray] (some 22) rfl (by kernel_rfl) rfl (by kernel_rfl) (xc_b fun ww hf => toSegment_c g.src g.dst g.seq g.ack g.flags g.window g.o.mss g.o.scale g.o.sack g.o.stamp g.o.val g.o.echo g.body ww) ?_
      intro _
      refine xe_all [4] (by kernel_rfl) (by simp) ?_
      refine xs_call 4 21 [.agg (conL c (.slice v4a c.r.held.length v4c)).toArray, .agg (segL g).toArray] (some 23) rfl (by kernel_rfl) rfl (by kernel_rfl) (xc_b fun ww hf => ysVerdict_c c (.slice v4a c.r.held.length v4c) g ww (Own.sl (hf (ownF w.heap.size (.slice v4a c.r.held.length v4c) 2 (c.r.held.map pceCells)) (by simp))) (by omega) (by assumption) (by omega)) ?_
      intro _
      refine xe_take 5 (.v (.int .i64 (verdict c g))) ⟨[(6, .v (.int .i64 (verdict c g))), (23, .v (.int .i64 (verdict c g))), (22, .v (.agg (segL g).toArray)), (20, .v (.agg (conL c (.slice v4a c.r.held.length v4c)).toArray)), (21, .v (.agg (segL g).toArray)), (19, .v (.agg (conL c (.slice ra_c_r_heldV c.r.held.length rc_c_r_heldV)).toArray)), (2, .p 0 0), (3, .p 1 0), (18, .v (.bool (decide ((if (r1 : Int) < g.body.size then -1 else (r1 : Int) - g.body.size) < 0))))], [⟨32, conL c (.slice ra_c_r_heldV c.r.held.length rc_c_r_heldV)⟩, ⟨47, segL g⟩], [], [ownF w.heap.size (.slice v4a c.r.held.length v4c) 2 (c.r.held.map pceCells), slF (.slice ra_c_r_heldV c.r.held.length rc_c_r_heldV) 2 (c.r.held.map pceCells)]⟩ rfl (by kernel_rfl) (by kernel_rfl) (by kernel_rfl) (fun _ _ h => h) (by kernel_rfl) (by kernel_rfl) rfl (by kernel_rfl) ?_
      refine xe_done (by kernel_rfl) ?_
      refine xw_seq ?_
      refine xw_region ?_
      refine xl_call 1 [2, 3, 6, 24] ⟨[(2, .p 0 0), (3, .p 1 0), (6, .v (.int .i64 (verdict c g))), (24, .v (.agg (conL c (.slice ra_c_r_heldV c.r.held.length rc_c_r_heldV)).toArray))], [⟨32, conL c (.slice ra_c_r_heldV c.r.held.length rc_c_r_heldV)⟩, ⟨47, segL g⟩], [], [ownF w.heap.size (.slice v4a c.r.held.length v4c) 2 (c.r.held.map pceCells), slF (.slice ra_c_r_heldV c.r.held.length rc_c_r_heldV) 2 (c.r.held.map pceCells)]⟩ 17 [.agg (conL c (.slice ra_c_r_heldV c.r.held.length rc_c_r_heldV)).toArray] (some 25) (by kernel_rfl) rfl (by kernel_rfl) rfl (by kernel_rfl) (xc_on (m := c.r.held.length) (F := fun v' => .agg (conL c v').toArray) (List.length_map ..) fun ww hf => toConn_c c.t.ip c.t.port c.t.my c.state c.s.una c.s.data c.s.sent c.s.fin c.s.finSent c.s.done c.r.next c.r.data c.r.held (.slice ra_c_r_heldV c.r.held.length rc_c_r_heldV) c.r.fin c.r.done c.window c.most c.o.mss c.o.scale c.o.sack c.o.stamp c.o.val c.o.echo c.timer c.tries ww (hf (slF (.slice ra_c_r_heldV c.r.held.length rc_c_r_heldV) 2 (c.r.held.map pceCells)) (by simp)) (by omega)) ?_
      rintro ⟨v5a, v5c⟩
      refine xl_end [2, 3, 6, 7] ⟨[(2, .p 0 0), (3, .p 1 0), (6, .v (.int .i64 (verdict c g))), (7, .p 2 0)], [⟨32, conL c (.slice ra_c_r_heldV c.r.held.length rc_c_r_heldV)⟩, ⟨47, segL g⟩, ⟨42, conL c (.slice v5a c.r.held.length v5c)⟩], [], [ownF w.heap.size (.slice v5a c.r.held.length v5c) 2 (c.r.held.map pceCells), ownF w.heap.size (.slice v4a c.r.held.length v4c) 2 (c.r.held.map pceCells), slF (.slice ra_c_r_heldV c.r.held.length rc_c_r_heldV) 2 (c.r.held.map pceCells)]⟩ (by kernel_rfl) ?_
      refine xw_seq ?_
      refine xe_region [] (by kernel_rfl) (fun ρ σ => ?_)
      refine xe_take 0 (.v (.agg (conL c (.slice v5a c.r.held.length v5c)).toArray)) ⟨[(26, .v (.agg (conL c (.slice v5a c.r.held.length v5c)).toArray)), (2, .p 0 0), (3, .p 1 0), (6, .v (.int .i64 (verdict c g))), (7, .p 2 0)], [⟨32, conL c (.slice ra_c_r_heldV c.r.held.length rc_c_r_heldV)⟩, ⟨47, segL g⟩, ⟨42, conL c (.slice v5a c.r.held.length v5c)⟩], [], [ownF w.heap.size (.slice v5a c.r.held.length v5c) 2 (c.r.held.map pceCells), ownF w.heap.size (.slice v4a c.r.held.length v4c) 2 (c.r.held.map pceCells), slF (.slice ra_c_r_heldV c.r.held.length rc_c_r_heldV) 2 (c.r.held.map pceCells)]⟩ rfl (by kernel_rfl) (by kernel_rfl) (by kernel_rfl) (fun _ _ h => h) (by kernel_rfl) (by kernel_rfl) rfl (by kernel_rfl) ?_
      refine xe_take 1 (.v (.agg (segL g).toArray)) ⟨[(27, .v (.agg (segL g).toArray)), (26, .v (.agg (conL c (.slice v5a c.r.held.length v5c)).toArray)), (2, .p 0 0), (3, .p 1 0), (6, .v (.int .i64 (verdict c g))), (7, .p 2 0)], [⟨32, conL c (.slice ra_c_r_heldV c.r.held.length rc_c_r_heldV)⟩, ⟨47, segL g⟩, ⟨42, conL c (.slice v5a c.r.held.length v5c)⟩], [], [ownF w.heap.size (.slice v5a c.r.held.length v5c) 2 (c.r.held.map pceCells), ownF w.heap.size (.slice v4a c.r.held.length v4c) 2 (c.r.held.map pceCells), slF (.slice ra_c_r_heldV c.r.held.length rc_c_r_heldV) 2 (c.r.held.map pceCells)]⟩ rfl (by kernel_rfl) (by kernel_rfl) (by kernel_rfl) (fun _ _ h => h) (by kernel_rfl) (by kernel_rfl) rfl (by kernel_rfl) ?_
      refine xe_all [2] (by kernel_rfl) (by simp) ?_
      refine xs_call 2 22 [.agg (segL g).toArray] (some 28) rfl (by kernel_rfl) rfl (by kernel_rfl) (xc_b fun ww hf => toSegment_c g.src g.dst g.seq g.ack g.flags g.window g.o.mss g.o.scale g.o.sack g.o.stamp g.o.val g.o.echo g.body ww) ?_
      intro _
      refine xe_all [3] (by kernel_rfl) (by simp) ?_
      refine xs_call 3 23 [.agg (conL c (.slice v5a c.r.held.length v5c)).toArray, .agg (segL g).toArray] (some 29) rfl (by kernel_rfl) rfl (by kernel_rfl) (xc_b fun ww hf => yiVerdict_c c (.slice v5a c.r.held.length v5c) g ww (Own.sl (hf (ownF w.heap.size (.slice v5a c.r.held.length v5c) 2 (c.r.held.map pceCells)) (by simp))) (by omega) (by assumption) (by omega)) ?_
      intro _
      refine xe_take 4 (.v (.int .i64 (verdict c g))) ⟨[(8, .v (.int .i64 (verdict c g))), (29, .v (.int .i64 (verdict c g))), (28, .v (.agg (segL g).toArray)), (27, .v (.agg (segL g).toArray)), (26, .v (.agg (conL c (.slice v5a c.r.held.length v5c)).toArray)), (2, .p 0 0), (3, .p 1 0), (6, .v (.int .i64 (verdict c g))), (7, .p 2 0)], [⟨32, conL c (.slice ra_c_r_heldV c.r.held.length rc_c_r_heldV)⟩, ⟨47, segL g⟩, ⟨42, conL c (.slice v5a c.r.held.length v5c)⟩], [], [ownF w.heap.size (.slice v5a c.r.held.length v5c) 2 (c.r.held.map pceCells), ownF w.heap.size (.slice v4a c.r.held.length v4c) 2 (c.r.held.map pceCells), slF (.slice ra_c_r_heldV c.r.held.length rc_c_r_heldV) 2 (c.r.held.map pceCells)]⟩ rfl (by kernel_rfl) (by kernel_rfl) (by kernel_rfl) (fun _ _ h => h) (by kernel_rfl) (by kernel_rfl) rfl (by kernel_rfl) ?_
      refine xe_done (by kernel_rfl) ?_
      refine xw_seq ?_
      refine xw_seq ?_
      refine xw_region ?_
      refine xl_end [2, 7, 32] ⟨[(2, .p 0 0), (7, .p 2 0), (32, .v (.bool ((verdict c g) != (verdict c g))))], [⟨32, conL c (.slice ra_c_r_heldV c.r.held.length rc_c_r_heldV)⟩, ⟨47, segL g⟩, ⟨42, conL c (.slice v5a c.r.held.length v5c)⟩], [], [ownF w.heap.size (.slice v5a c.r.held.length v5c) 2 (c.r.held.map pceCells), ownF w.heap.size (.slice v4a c.r.held.length v4c) 2 (c.r.held.map pceCells), slF (.slice ra_c_r_heldV c.r.held.length rc_c_r_heldV) 2 (c.r.held.map pceCells)]⟩ (by kernel_rfl) ?_
      refine xw_cond (b := (verdict c g) != (verdict c g)) (by kernel_rfl) (fun h6 => ?_) (fun h6 => ?_)
      · skip
        simp at h6
      · skip
        have h6p := h6; simp only [beq_iff_eq, bne_iff_ne, beq_eq_false_iff_ne, bne_eq_false_iff_eq, ne_eq, toList_lit0] at h6p
        refine xw_skip ?_
        refine xw_seq ?_
        refine xw_seq ?_
        refine xe_region [] (by kernel_rfl) (fun ρ σ => ?_)
        refine xe_take 0 (.v (.agg (conL c (.slice v5a c.r.held.length v5c)).toArray)) ⟨[(33, .v (.agg (conL c (.slice v5a c.r.held.length v5c)).toArray)), (2, .p 0 0), (7, .p 2 0), (32, .v (.bool ((verdict c g) != (verdict c g))))], [⟨32, conL c (.slice ra_c_r_heldV c.r.held.length rc_c_r_heldV)⟩, ⟨47, segL g⟩, ⟨42, conL c (.slice v5a c.r.held.length v5c)⟩], [], [ownF w.heap.size (.slice v5a c.r.held.length v5c) 2 (c.r.held.map pceCells), ownF w.heap.size (.slice v4a c.r.held.length v4c) 2 (c.r.held.map pceCells), slF (.slice ra_c_r_heldV c.r.held.length rc_c_r_heldV) 2 (c.r.held.map pceCells)]⟩ rfl (by kernel_rfl) (by kernel_rfl) (by kernel_rfl) (fun _ _ h => h) (by kernel_rfl) (by kernel_rfl) rfl (by kernel_rfl) ?_
        refine xe_take 1 (.v (.agg (conL c (.slice ra_c_r_heldV c.r.held.length rc_c_r_heldV)).toArray)) ⟨[(34, .v (.agg (conL c (.slice ra_c_r_heldV c.r.held.length rc_c_r_heldV)).toArray)), (33, .v (.agg (conL c (.slice v5a c.r.held.length v5c)).toArray)), (2, .p 0 0), (7, .p 2 0), (32, .v (.bool ((verdict c g) != (verdict c g))))], [⟨32, conL c (.slice ra_c_r_heldV c.r.held.length rc_c_r_heldV)⟩, ⟨47, segL g⟩, ⟨42, conL c (.slice v5a c.r.held.length v5c)⟩], [], [ownF w.heap.size (.slice v5a c.r.held.length v5c) 2 (c.r.held.map pceCells), ownF w.heap.size (.slice v4a c.r.held.length v4c) 2 (c.r.held.map pceCells), slF (.slice ra_c_r_heldV c.r.held.length rc_c_r_heldV) 2 (c.r.held.map pceCells)]⟩ rfl (by kernel_rfl) (by kernel_rfl) (by kernel_rfl) (fun _ _ h => h) (by kernel_rfl) (by kernel_rfl) rfl (by kernel_rfl) ?_
        refine xe_all [2] (by kernel_rfl) (by simp) ?_
        refine xs_call 2 17 [.agg (conL c (.slice ra_c_r_heldV c.r.held.length rc_c_r_heldV)).toArray] (some 35) rfl (by kernel_rfl) rfl (by kernel_rfl) (xc_on (m := c.r.held.length) (F := fun v' => .agg (conL c v').toArray) (List.length_map ..) fun ww hf => toConn_c c.t.ip c.t.port c.t.my c.state c.s.una c.s.data c.s.sent c.s.fin c.s.finSent c.s.done c.r.next c.r.data c.r.held (.slice ra_c_r_heldV c.r.held.length rc_c_r_heldV) c.r.fin c.r.done c.window c.most c.o.mss c.o.scale c.o.sack c.o.stamp c.o.val c.o.echo c.timer c.tries ww (hf (slF (.slice ra_c_r_heldV c.r.held.length rc_c_r_heldV) 2 (c.r.held.map pceCells)) (by simp)) (by omega)) ?_
        rintro ⟨v7a, v7c⟩
        refine xe_all [3] (by kernel_rfl) (by simp) ?_
        refine xs_call 3 19 [.agg (conL c (.slice v5a c.r.held.length v5c)).toArray, .agg (conL c (.slice v7a c.r.held.length v7c)).toArray] (some 36) rfl (by kernel_rfl) rfl (by kernel_rfl) (xc_b fun ww hf => eqConn_c c.t.ip c.t.port c.t.my c.state c.s.una c.s.data c.s.sent c.s.fin c.s.finSent c.s.done c.r.next c.r.data c.r.held (.slice v5a c.r.held.length v5c) c.r.fin c.r.done c.window c.most c.o.mss c.o.scale c.o.sack c.o.stamp c.o.val c.o.echo c.timer c.tries (.slice v7a c.r.held.length v7c) ww (Own.sl (hf (ownF w.heap.size (.slice v5a c.r.held.length v5c) 2 (c.r.held.map pceCells)) (by simp))) (Own.sl (hf (ownF w.heap.size (.slice v7a c.r.held.length v7c) 2 (c.r.held.map pceCells)) (by simp)))) ?_
        intro _
        refine xe_take 4 (.v (.bool false)) ⟨[(37, .v (.bool false)), (36, .v (.bool true)), (35, .v (.agg (conL c (.slice v7a c.r.held.length v7c)).toArray)), (34, .v (.agg (conL c (.slice ra_c_r_heldV c.r.held.length rc_c_r_heldV)).toArray)), (33, .v (.agg (conL c (.slice v5a c.r.held.length v5c)).toArray)), (2, .p 0 0), (7, .p 2 0), (32, .v (.bool ((verdict c g) != (verdict c g))))], [⟨32, conL c (.slice ra_c_r_heldV c.r.held.length rc_c_r_heldV)⟩, ⟨47, segL g⟩, ⟨42, conL c (.slice v5a c.r.held.length v5c)⟩], [], [ownF w.heap.size (.slice v7a c.r.held.length v7c) 2 (c.r.held.map pceCells), ownF w.heap.size (.slice v5a c.r.held.length v5c) 2 (c.r.held.map pceCells), ownF w.heap.size (.slice v4a c.r.held.length v4c) 2 (c.r.held.map pceCells), slF (.slice ra_c_r_heldV c.r.held.length rc_c_r_heldV) 2 (c.r.held.map pceCells)]⟩ rfl (by kernel_rfl) (by kernel_rfl) (by kernel_rfl) (fun _ _ h => h) (by kernel_rfl) (by kernel_rfl) rfl (by kernel_rfl) ?_
        refine xe_done (by kernel_rfl) ?_
        refine xw_false (by kernel_rfl) ?_
        refine xw_skip ?_
        refine xw_seq ?_
        refine xw_region ?_
        refine xl_end [4] ⟨[(4, .v (.bool true))], [⟨32, conL c (.slice ra_c_r_heldV c.r.held.length rc_c_r_heldV)⟩, ⟨47, segL g⟩, ⟨42, conL c (.slice v5a c.r.held.length v5c)⟩], [], [ownF w.heap.size (.slice v7a c.r.held.length v7c) 2 (c.r.held.map pceCells), ownF w.heap.size (.slice v5a c.r.held.length v5c) 2 (c.r.held.map pceCells), ownF w.heap.size (.slice v4a c.r.held.length v4c) 2 (c.r.held.map pceCells), slF (.slice ra_c_r_heldV c.r.held.length rc_c_r_heldV) 2 (c.r.held.map pceCells)]⟩ (by kernel_rfl) ?_
        refine xw_ret ?_
        exact ⟨[.bool true], by kernel_rfl, fun w' hb hf => ⟨rfl, hb⟩⟩

set_option maxRecDepth 100000 in
theorem fnExactVerdict_lifted (os : Os) (started : os.Started) (H : Type) (enc : TypeId × Value → H) :
    ReturnsInHanded {} Try.checked os 4 .any (Rows.fnExactVerdictSpec.pre6 enc Try.prog Try.f4 Rows.fnExactVerdictRow.domain false) (Rows.fnExactVerdictSpec.post enc Try.prog Try.f4 false true false false) := by
  refine returnsInHanded_of_change (C := Try.checked) Try.ownK started (by kernel_rfl) Try.func4
    (ChangeSpec.witness6 (enc := enc) (C := Try.checked) false ⟨#[], #[.agg #[.int .i64 0, .int .i64 0, .int .i64 0, .int .i64 0, .int .i64 0, .string ⟨#[]⟩, .int .i64 0, .bool false, .bool false, .bool false, .int .i64 0, .string ⟨#[]⟩, .slice none 0 0, .int .i64 0, .bool false, .int .i64 0, .int .i64 0, .int .i64 0, .int .i64 0, .bool false, .bool false, .int .i64 0, .int .i64 0, .int .i64 0, .int .i64 0], .agg #[.int .i64 0, .int .i64 0, .int .i64 0, .int .i64 0, .int .i64 0, .int .i64 0, .int .i64 0, .int .i64 0, .bool false, .bool false, .int .i64 0, .int .i64 0, .string ⟨#[]⟩]], []⟩ 8 (by kernel_rfl) (by kernel_rfl) (by kernel_rfl) (by kernel_rfl)) ?_
  intro W base args ds gs before hval0 hW hcnd _
  have hval : ∀ (j : Nat) t v, Try.f4.params[j]? = some t → args[j]? = some v → Value.okWide Try.prog W .any base t v := hval0
  have hW' := hW
  obtain ⟨p, q, hA0, hV, rfl, hfz, hnd⟩ := hW
  have hA : DataW.TrodAll enc Try.prog W 0 (fun _ => true) true Try.f4.params.toList args.toList ds p := hA0
  rw [Try.params4] at hA hval
  obtain ⟨v0, vs0, d0, ds0, p0, q0, hargs, rfl, rfl, h0, r0⟩ := trodAll_cons hA
  obtain ⟨v1, vs1, d1, ds1, p1, q1, rfl, rfl, rfl, h1, r1⟩ := trodAll_cons r0
  obtain ⟨rfl, rfl, rfl⟩ := trodAll_nil r1
  obtain rfl : args = #[v0, v1] := by cases args; simp_all
  obtain ⟨rfl, rfl⟩ := trodVars_none hV
  clear hA0 hval0
  have g0 := h0
  have g1 := h1
  obtain ⟨cs0, rfl, -⟩ := okWide_struct Try.underlying32 (hval 0 _ v0 rfl rfl)
  obtain ⟨fuel0, f0⟩ := g0
  obtain ⟨c_t_ip, c_t_port, c_t_my, c_state, c_s_una, c_s_data, c_s_sent, c_s_fin, c_s_finSent, c_s_done, c_r_next, c_r_data, c_r_held_v, c_r_fin, c_r_done, c_window, c_most, c_o_mss, c_o_scale, c_o_sack, c_o_stamp, c_o_val, c_o_echo, c_timer, c_tries, e0, F_c_t_ip, F_c_t_port, F_c_t_my, F_c_state, F_c_s_una, F_c_s_data, F_c_s_sent, F_c_r_next, F_c_r_data, F_c_r_held, F_c_r_fin, F_c_window, F_c_most, F_c_o_mss, F_c_o_scale, F_c_o_val, F_c_o_echo, F_c_timer, F_c_tries⟩ := open_CON f0
  obtain rfl : cs0 = #[.int .i64 c_t_ip, .int .i64 c_t_port, .int .i64 c_t_my, .int .i64 c_state, .int .i64 c_s_una, .string c_s_data, .int .i64 c_s_sent, .bool c_s_fin, .bool c_s_finSent, .bool c_s_done, .int .i64 c_r_next, .string c_r_data, c_r_held_v, .int .i64 c_r_fin, .bool c_r_done, .int .i64 c_window, .int .i64 c_most, .int .i64 c_o_mss, .int .i64 c_o_scale, .bool c_o_sack, .bool c_o_stamp, .int .i64 c_o_val, .int .i64 c_o_echo, .int .i64 c_timer, .int .i64 c_tries] := by cases cs0; simpa [Value.cells] using e0
  clear e0
  obtain ⟨_, _, T_c_r_held⟩ := F_c_r_held
  obtain ⟨c_r_held, L_c_r_held, M_c_r_held⟩ := openSc_PCE T_c_r_held
  obtain ⟨cs1, rfl, -⟩ := okWide_struct Try.underlying47 (hval 1 _ v1 rfl rfl)
  obtain ⟨fuel1, f1⟩ := g1
  obtain ⟨g_src, g_dst, g_seq, g_ack, g_flags, g_window, g_o_mss, g_o_scale, g_o_sack, g_o_stamp, g_o_val, g_o_echo, g_body, e1, F_g_src, F_g_dst, F_g_seq, F_g_ack, F_g_flags, F_g_window, F_g_o_mss, F_g_o_scale, F_g_o_val, F_g_o_echo, F_g_body⟩ := open_SEG f1
  obtain rfl : cs1 = #[.int .i64 g_src, .int .i64 g_dst, .int .i64 g_seq, .int .i64 g_ack, .int .i64 g_flags, .int .i64 g_window, .int .i64 g_o_mss, .int .i64 g_o_scale, .bool g_o_sack, .bool g_o_stamp, .int .i64 g_o_val, .int .i64 g_o_echo, .string g_body] := by cases cs1; simpa [Value.cells] using e1
  clear e1
  refine (fnExactVerdict_walk (⟨⟨c_t_ip, c_t_port, c_t_my⟩, c_state, ⟨c_s_una, c_s_data, c_s_sent, c_s_fin, c_s_finSent, c_s_done⟩, ⟨c_r_next, c_r_data, c_r_held, c_r_fin, c_r_done⟩, c_window, c_most, ⟨c_o_mss, c_o_scale, c_o_sack, c_o_stamp, c_o_val, c_o_echo⟩, c_timer, c_tries⟩ : Con) c_r_held_v (⟨g_src, g_dst, g_seq, g_ack, g_flags, g_window, ⟨g_o_mss, g_o_scale, g_o_sack, g_o_stamp, g_o_val, g_o_echo⟩, g_body⟩ : Seg) W F_c_s_data F_c_r_data L_c_r_held M_c_r_held F_g_body).mono fun e W' ⟨he, hb⟩ => ?_
  subst he
  have hlt : ∀ x ∈ (p0 ++ (p1 ++ ([]))) ++ [], x.block < W.heap.size := fun x hx => hW'.lt x hx
  refine ⟨_, rfl, post_of_below (pa := (p0 ++ (p1 ++ ([])))) (pv := []) hW' (fun _ _ _ => trodAll_cons_mk (shut_bool Try.underlying4 _) trodAll_mk0) (fun sp hsp => trodAll_cons_mk (WideElems.Trod_stays Try.laidOut (by kernel_rfl) (of_decide_eq_true (by kernel_rfl)) h0 (fun x hx => hb.same (hlt x (List.mem_append_left _ (List.mem_append_left _ hx)))) (fun x hx => hsp x (List.mem_append_left _ (List.mem_append_left _ hx)))) (trodAll_cons_mk (WideElems.Trod_stays Try.laidOut (by kernel_rfl) (of_decide_eq_true (by kernel_rfl)) h1 (fun x hx => hb.same (hlt x (List.mem_append_left _ (List.mem_append_right _ (List.mem_append_left _ hx))))) (fun x hx => hsp x (List.mem_append_left _ (List.mem_append_right _ (List.mem_append_left _ hx))))) (trodAll_mk0))) (fun _ _ => rfl) rfl hb (ok_one (by kernel_rfl) rfl (okWide_bool_mk Try.underlying4 _))⟩

theorem fnExactVerdict_over : Rows.fnExactVerdictRow.holds Try.pinned (OpenSpec.ofChange Rows.fnExactVerdictSpec) :=
  OpenClaim.holds_of_wide 4 Try.f4 rfl rfl rfl rfl rfl rfl rfl ⟨rfl, rfl, rfl, rfl, rfl⟩ rfl rfl rfl rfl rfl (by kernel_rfl) Try.func4 (by kernel_rfl)
    (of_decide_eq_true (by kernel_rfl)) (by unfold Func.isWrapper; first | (rw [if_pos (by decide +kernel)]; kernel_rfl) | (rw [if_neg (by decide +kernel)]; exact ⟨rfl, rfl⟩))
    (fun os started H enc _ => fnExactVerdict_lifted os started H enc)

theorem fnExactVerdict_holds : Rows.FnExactVerdictSaid := fnExactVerdict_over
#print axioms fnExactVerdict_holds
end Go.Proofs.Ytjfamgkkenccdaa
