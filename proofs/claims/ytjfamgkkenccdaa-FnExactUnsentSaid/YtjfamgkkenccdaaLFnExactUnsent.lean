/- The law FnExactUnsent holds: for every argument the program's function answers true and leaves its arguments as they were. Conditions: none beyond the given row's. -/
import Derived.Test.YtjfamgkkenccdaaY3i
namespace Go.Proofs.Ytjfamgkkenccdaa
open Go.RowKit Go.ChangeShapes Go.WideShapes Go.ChangeAt
set_option linter.unusedVariables false
set_option linter.unusedSimpArgs false

set_option maxRecDepth 100000 in
set_option maxHeartbeats 2000000 in
theorem fnExactUnsent_walk (c : Con) (c_r_heldV : Value) (w : World) (hs_c_s_data : c.s.data.size ≤ maxLen) (hs_c_r_data : c.r.data.size ≤ maxLen) (hl_c_r_heldV : Sl w c_r_heldV 2 (c.r.held.map pceCells)) (hm_c_r_heldV : ∀ p ∈ c.r.held, p.text.size ≤ maxLen) : Calls Try.prog 3 #[.agg (conL c c_r_heldV).toArray] w fun e w' => e = .returned (.bool true) ∧ Below w.heap.size w w' := by
  obtain ⟨ra_c_r_heldV, rc_c_r_heldV, hv_c_r_heldV⟩ := hl_c_r_heldV.form
  rw [List.length_map] at hv_c_r_heldV; subst hv_c_r_heldV
  have hn_c_r_heldV := hl_c_r_heldV.len; rw [List.length_map] at hn_c_r_heldV
  refine x_calls (args := [.agg (conL c (.slice ra_c_r_heldV c.r.held.length rc_c_r_heldV)).toArray]) (fn := Try.f3) [slF (.slice ra_c_r_heldV c.r.held.length rc_c_r_heldV) 2 (c.r.held.map pceCells)] Try.func3 rfl Try.ntmps3 rfl (by simp only [List.mem_cons, List.not_mem_nil, or_false, forall_eq_or_imp, forall_eq]; exact ⟨rfl, hl_c_r_heldV⟩) ?_
  refine xw_seq ?_
  refine xw_region ?_
  refine xl_end [1] ⟨[(1, .p 0 0)], [⟨32, conL c (.slice ra_c_r_heldV c.r.held.length rc_c_r_heldV)⟩], [], [slF (.slice ra_c_r_heldV c.r.held.length rc_c_r_heldV) 2 (c.r.held.map pceCells)]⟩ (by kernel_rfl) ?_
  refine xw_seq ?_
  refine xw_region ?_
  refine xl_end [1, 3] ⟨[(1, .p 0 0), (3, .v (.int .i64 1048576))], [⟨32, conL c (.slice ra_c_r_heldV c.r.held.length rc_c_r_heldV)⟩], [], [slF (.slice ra_c_r_heldV c.r.held.length rc_c_r_heldV) 2 (c.r.held.map pceCells)]⟩ (by kernel_rfl) ?_
  refine xw_seq ?_
  refine xw_region ?_
  refine xl_call 2 [1, 3, 7, 8] ⟨[(1, .p 0 0), (3, .v (.int .i64 1048576)), (7, .v (.agg (conL c (.slice ra_c_r_heldV c.r.held.length rc_c_r_heldV)).toArray)), (8, .v (.int .i64 1048576))], [⟨32, conL c (.slice ra_c_r_heldV c.r.held.length rc_c_r_heldV)⟩], [], [slF (.slice ra_c_r_heldV c.r.held.length rc_c_r_heldV) 2 (c.r.held.map pceCells)]⟩ 15 [.agg (conL c (.slice ra_c_r_heldV c.r.held.length rc_c_r_heldV)).toArray, .int .i64 1048576] (some 9) (by kernel_rfl) rfl (by kernel_rfl) rfl (by kernel_rfl) (xc_e (α := Int) (F := fun y => .int .i64 y) (p := fun r => r = -1 ∨ (0 ≤ r ∧ r ≤ 1048576 ∧ ConFit 1048576 c)) fun ww hf => szConn_c c.t.ip c.t.port c.t.my c.state c.s.una c.s.data c.s.sent c.s.fin c.s.finSent c.s.done c.r.next c.r.data c.r.held (.slice ra_c_r_heldV c.r.held.length rc_c_r_heldV) c.r.fin c.r.done c.window c.most c.o.mss c.o.scale c.o.sack c.o.stamp c.o.val c.o.echo c.timer c.tries 1048576 ww (hf (slF (.slice ra_c_r_heldV c.r.held.length rc_c_r_heldV) 2 (c.r.held.map pceCells)) (by simp)) hm_c_r_heldV (by omega) (by omega) hs_c_r_data hs_c_s_data) ?_
  rintro ⟨r1, hr1⟩
  refine xl_end [1, 3] ⟨[(1, .p 0 0), (3, .v (.int .i64 r1))], [⟨32, conL c (.slice ra_c_r_heldV c.r.held.length rc_c_r_heldV)⟩], [], [slF (.slice ra_c_r_heldV c.r.held.length rc_c_r_heldV) 2 (c.r.held.map pceCells)]⟩ (by kernel_rfl) ?_
  refine xw_seq ?_
  refine xw_seq ?_
  refine xw_region ?_
  refine xl_end [1, 11] ⟨[(1, .p 0 0), (11, .v (.bool (decide (r1 < 0))))], [⟨32, conL c (.slice ra_c_r_heldV c.r.held.length rc_c_r_heldV)⟩], [], [slF (.slice ra_c_r_heldV c.r.held.length rc_c_r_heldV) 2 (c.r.held.map pceCells)]⟩ (by kernel_rfl) ?_
  refine xw_cond (b := decide (r1 < 0)) (by kernel_rfl) (fun h2 => ?_) (fun h2 => ?_)
  · skip
    have h2p : (r1 < 0) := of_decide_eq_true h2
    refine xw_seq ?_
    refine xw_region ?_
    refine xl_end [2] ⟨[(2, .v (.bool true))], [⟨32, conL c (.slice ra_c_r_heldV c.r.held.length rc_c_r_heldV)⟩], [], [slF (.slice ra_c_r_heldV c.r.held.length rc_c_r_heldV) 2 (c.r.held.map pceCells)]⟩ (by kernel_rfl) ?_
    refine xw_ret ?_
    exact ⟨[.bool true], by kernel_rfl, fun w' hb hf => ⟨rfl, hb⟩⟩
  · skip
    have h2p : ¬ (r1 < 0) := of_decide_eq_false h2
    rcases hr1 with hr1 | ⟨hr1a, hr1b, hr1c⟩
    · omega
    obtain ⟨hr11, hr12, hr13, hr14⟩ := hr1c
    have hmr1 : ∀ p ∈ c.r.held, p.text.size ≤ 1048576 := fun p hp => by have := hr14 p hp; omega
    refine xw_skip ?_
    refine xw_seq ?_
    refine xw_region ?_
    refine xl_call 1 [1, 12] ⟨[(1, .p 0 0), (12, .v (.agg (conL c (.slice ra_c_r_heldV c.r.held.length rc_c_r_heldV)).toArray))], [⟨32, conL c (.slice ra_c_r_heldV c.r.held.length rc_c_r_heldV)⟩], [], [slF (.slice ra_c_r_heldV c.r.held.length rc_c_r_heldV) 2 (c.r.held.map pceCells)]⟩ 17 [.agg (conL c (.slice ra_c_r_heldV c.r.held.length rc_c_r_heldV)).toArray] (some 13) (by kernel_rfl) rfl (by kernel_rfl) rfl (by kernel_rfl) (xc_on (m := c.r.held.length) (F := fun v' => .agg (conL c v').toArray) (List.length_map ..) fun ww hf => toConn_c c.t.ip c.t.port c.t.my c.state c.s.una c.s.data c.s.sent c.s.fin c.s.finSent c.s.done c.r.next c.r.data c.r.held (.slice ra_c_r_heldV c.r.held.length rc_c_r_heldV) c.r.fin c.r.done c.window c.most c.o.mss c.o.scale c.o.sack c.o.stamp c.o.val c.o.echo c.timer c.tries ww (hf (slF (.slice ra_c_r_heldV c.r.held.length rc_c_r_heldV) 2 (c.r.held.map pceCells)) (by simp)) (by omega)) ?_
    rintro ⟨v3a, v3c⟩
    refine xl_call 0 [1, 13] ⟨[(1, .p 0 0), (13, .v (.agg (conL c (.slice v3a c.r.held.length v3c)).toArray))], [⟨32, conL c (.slice ra_c_r_heldV c.r.held.length rc_c_r_heldV)⟩], [], [ownF w.heap.size (.slice v3a c.r.held.length v3c) 2 (c.r.held.map pceCells), slF (.slice ra_c_r_heldV c.r.held.length rc_c_r_heldV) 2 (c.r.held.map pceCells)]⟩ 16 [.agg (conL c (.slice v3a c.r.held.length v3c)).toArray] (some 14) (by kernel_rfl) rfl (by kernel_rfl) rfl (by kernel_rfl) (xc_b fun ww hf => ysUnsent_c c (.slice v3a c.r.held.length v3c) ww ) ?_
    intro _
    refine xl_end [1, 4] ⟨[(1, .p 0 0), (4, .v (.bool (unsent c)))], [⟨32, conL c (.slice ra_c_r_heldV c.r.held.length rc_c_r_heldV)⟩], [], [ownF w.heap.size (.slice v3a c.r.held.length v3c) 2 (c.r.held.map pceCells), slF (.slice ra_c_r_heldV c.r.held.length rc_c_r_heldV) 2 (c.r.held.map pceCells)]⟩ (by kernel_rfl) ?_
    refine xw_seq ?_
    refine xw_region ?_
    refine xl_call 1 [1, 4, 15] ⟨[(1, .p 0 0), (4, .v (.bool (unsent c))), (15, .v (.agg (conL c (.slice ra_c_r_heldV c.r.held.length rc_c_r_heldV)).toArray))], [⟨32, conL c (.slice ra_c_r_heldV c.r.held.length rc_c_r_heldV)⟩], [], [ownF w.heap.size (.slice v3a c.r.held.length v3c) 2 (c.r.held.map pceCells), slF (.slice ra_c_r_heldV c.r.held.length rc_c_r_heldV) 2 (c.r.held.map pceCells)]⟩ 17 [.agg (conL c (.slice ra_c_r_heldV c.r.held.length rc_c_r_heldV)).toArray] (some 16) (by kernel_rfl) rfl (by kernel_rfl) rfl (by kernel_rfl) (xc_on (m := c.r.held.length) (F := fun v' => .agg (conL c v').toArray) (List.length_map ..) fun ww hf => toConn_c c.t.ip c.t.port c.t.my c.state c.s.una c.s.data c.s.sent c.s.fin c.s.finSent c.s.done c.r.next c.r.data c.r.held (.slice ra_c_r_heldV c.r.held.length rc_c_r_heldV) c.r.fin c.r.done c.window c.most c.o.mss c.o.scale c.o.sack c.o.stamp c.o.val c.o.echo c.timer c.tries ww (hf (slF (.slice ra_c_r_heldV c.r.held.length rc_c_r_heldV) 2 (c.r.held.map pceCells)) (by simp)) (by omega)) ?_
    rintro ⟨v4a, v4c⟩
    refine xl_end [1, 4, 5] ⟨[(1, .p 0 0), (4, .v (.bool (unsent c))), (5, .p 1 0)], [⟨32, conL c (.slice ra_c_r_heldV c.r.held.length rc_c_r_heldV)⟩, ⟨42, conL c (.slice v4a c.r.held.length v4c)⟩], [], [ownF w.heap.size (.slice v4a c.r.held.length v4c) 2 (c.r.held.map pceCells), ownF w.heap.size (.slice v3a c.r.held.length v3c) 2 (c.r.held.map pceCells), slF (.slice ra_c_r_heldV c.r.held.length rc_c_r_heldV) 2 (c.r.held.map pceCells)]⟩ (by kernel_rfl) ?_
    refine xw_seq ?_
    refine xw_region ?_
    refine xl_call 1 [1, 4, 5, 17] ⟨[(1, .p 0 0), (4, .v (.bool (unsent c))), (5, .p 1 0), (17, .v (.agg (conL c (.slice v4a c.r.held.length v4c)).toArray))], [⟨32, conL c (.slice ra_c_r_heldV c.r.held.length rc_c_r_heldV)⟩, ⟨42, conL c (.slice v4a c.r.held.length v4c)⟩], [], [ownF w.heap.size (.slice v4a c.r.held.length v4c) 2 (c.r.held.map pceCells), ownF w.heap.size (.slice v3a c.r.held.length v3c) 2 (c.r.held.map pceCells), slF (.slice ra_c_r_heldV c.r.held.length rc_c_r_heldV) 2 (c.r.held.map pceCells)]⟩ 18 [.agg (conL c (.slice v4a c.r.held.length v4c)).toArray] (some 18) (by kernel_rfl) rfl (by kernel_rfl) rfl (by kernel_rfl) (xc_b fun ww hf => yiUnsent_c c (.slice v4a c.r.held.length v4c) ww ) ?_
    intro _
    refine xl_end [1, 4, 5, 6] ⟨[(1, .p 0 0), (4, .v (.bool (unsent c))), (5, .p 1 0), (6, .v (.bool (unsent c)))], [⟨32, conL c (.slice ra_c_r_heldV c.r.held.length rc_c_r_heldV)⟩, ⟨42, conL c (.slice v4a c.r.held.length v4c)⟩], [], [ownF w.heap.size (.slice v4a c.r.held.length v4c) 2 (c.r.held.map pceCells), ownF w.heap.size (.slice v3a c.r.held.length v3c) 2 (c.r.held.map pceCells), slF (.slice ra_c_r_heldV c.r.held.length rc_c_r_heldV) 2 (c.r.held.map pceCells)]⟩ (by kernel_rfl) ?_
    refine xw_seq ?_
    refine xw_seq ?_
    refine xw_region ?_
    refine xl_end [1, 5, 21] ⟨[(1, .p 0 0), (5, .p 1 0), (21, .v (.bool (!((unsent c) == (unsent c)))))], [⟨32, conL c (.slice ra_c_r_heldV c.r.held.length rc_c_r_heldV)⟩, ⟨42, conL c (.slice v4a c.r.held.length v4c)⟩], [], [ownF w.heap.size (.slice v4a c.r.held.length v4c) 2 (c.r.held.map pceCells), ownF w.heap.size (.slice v3a c.r.held.length v3c) 2 (c.r.held.map pceCells), slF (.slice ra_c_r_heldV c.r.held.length rc_c_r_heldV) 2 (c.r.held.map pceCells)]⟩ (by kernel_rfl) ?_
    refine xw_cond (b := !((unsent c) == (unsent c))) (by kernel_rfl) (fun h5 => ?_) (fun h5 => ?_)
    · skip
      simp at h5
    · skip
      refine xw_skip ?_
      refine xw_seq ?_
      refine xw_seq ?_
      refine xe_region [] (by kernel_rfl) (fun ρ σ => ?_)
      refine xe_take 0 (.v (.agg (conL c (.slice v4a c.r.held.length v4c)).toArray)) ⟨[(22, .v (.agg (conL c (.slice v4a c.r.held.length v4c)).toArray)), (1, .p 0 0), (5, .p 1 0), (21, .v (.bool (!((unsent c) == (unsent c)))))], [⟨32, conL c (.slice ra_c_r_heldV c.r.held.length rc_c_r_heldV)⟩, ⟨42, conL c (.slice v4a c.r.held.length v4c)⟩], [], [ownF w.heap.size (.slice v4a c.r.held.length v4c) 2 (c.r.held.map pceCells), ownF w.heap.size (.slice v3a c.r.held.length v3c) 2 (c.r.held.map pceCells), slF (.slice ra_c_r_heldV c.r.held.length rc_c_r_heldV) 2 (c.r.held.map pceCells)]⟩ rfl (by kernel_rfl) (by kernel_rfl) (by kernel_rfl) (fun _ _ h => h) (by kernel_rfl) (by kernel_rfl) rfl (by kernel_rfl) ?_
      refine xe_take 1 (.v (.agg (conL c (.slice ra_c_r_heldV c.r.held.length rc_c_r_heldV)).toArray)) ⟨[(23, .v (.agg (conL c (.slice ra_c_r_heldV c.r.held.length rc_c_r_heldV)).toArray)), (22, .v (.agg (conL c (.slice v4a c.r.held.length v4c)).toArray)), (1, .p 0 0), (5, .p 1 0), (21, .v (.bool (!((unsent c) == (unsent c)))))], [⟨32, conL c (.slice ra_c_r_heldV c.r.held.length rc_c_r_heldV)⟩, ⟨42, conL c (.slice v4a c.r.held.length v4c)⟩], [], [ownF w.heap.size (.slice v4a c.r.held.length v4c) 2 (c.r.held.map pceCells), ownF w.heap.size (.slice v3a c.r.held.length v3c) 2 (c.r.held.map pceCells), slF (.slice ra_c_r_heldV c.r.held.length rc_c_r_heldV) 2 (c.r.held.map pceCells)]⟩ rfl (by kernel_rfl) (by kernel_rfl) (by kernel_rfl) (fun _ _ h => h) (by kernel_rfl) (by kernel_rfl) rfl (by kernel_rfl) ?_
      refine xe_all [2] (by kernel_rfl) (by simp) ?_
      refine xs_call 2 17 [.agg (conL c (.slice ra_c_r_heldV c.r.held.length rc_c_r_heldV)).toArray] (some 24) rfl (by kernel_rfl) rfl (by kernel_rfl) (xc_on (m := c.r.held.length) (F := fun v' => .agg (conL c v').toArray) (List.length_map ..) fun ww hf => toConn_c c.t.ip c.t.port c.t.my c.state c.s.una c.s.data c.s.sent c.s.fin c.s.finSent c.s.done c.r.next c.r.data c.r.held (.slice ra_c_r_heldV c.r.held.length rc_c_r_heldV) c.r.fin c.r.done c.window c.most c.o.mss c.o.scale c.o.sack c.o.stamp c.o.val c.o.echo c.timer c.tries ww (hf (slF (.slice ra_c_r_heldV c.r.held.length rc_c_r_heldV) 2 (c.r.held.map pceCells)) (by simp)) (by omega)) ?_
      rintro ⟨v6a, v6c⟩
      refine xe_all [3] (by kernel_rfl) (by simp) ?_
      refine xs_call 3 19 [.agg (conL c (.slice v4a c.r.held.length v4c)).toArray, .agg (conL c (.slice v6a c.r.held.length v6c)).toArray] (some 25) rfl (by kernel_rfl) rfl (by kernel_rfl) (xc_b fun ww hf => eqConn_c c.t.ip c.t.port c.t.my c.state c.s.una c.s.data c.s.sent c.s.fin c.s.finSent c.s.done c.r.next c.r.data c.r.held (.slice v4a c.r.held.length v4c) c.r.fin c.r.done c.window c.most c.o.mss c.o.scale c.o.sack c.o.stamp c.o.val c.o.echo c.timer c.tries (.slice v6a c.r.held.length v6c) ww (Own.sl (hf (ownF w.heap.size (.slice v4a c.r.held.length v4c) 2 (c.r.held.map pceCells)) (by simp))) (Own.sl (hf (ownF w.heap.size (.slice v6a c.r.held.length v6c) 2 (c.r.held.map pceCells)) (by simp)))) ?_
      intro _
      refine xe_take 4 (.v (.bool false)) ⟨[(26, .v (.bool false)), (25, .v (.bool true)), (24, .v (.agg (conL c (.slice v6a c.r.held.length v6c)).toArray)), (23, .v (.agg (conL c (.slice ra_c_r_heldV c.r.held.length rc_c_r_heldV)).toArray)), (22, .v (.agg (conL c (.slice v4a c.r.held.length v4c)).toArray)), (1, .p 0 0), (5, .p 1 0), (21, .v (.bool (!((unsent c) == (unsent c)))))], [⟨32, conL c (.slice ra_c_r_heldV c.r.held.length rc_c_r_heldV)⟩, ⟨42, conL c (.slice v4a c.r.held.length v4c)⟩], [], [ownF w.heap.size (.slice v6a c.r.held.length v6c) 2 (c.r.held.map pceCells), ownF w.heap.size (.slice v4a c.r.held.length v4c) 2 (c.r.held.map pceCells), ownF w.heap.size (.slice v3a c.r.held.length v3c) 2 (c.r.held.map pceCells), slF (.slice ra_c_r_heldV c.r.held.length rc_c_r_heldV) 2 (c.r.held.map pceCells)]⟩ rfl (by kernel_rfl) (by kernel_rfl) (by kernel_rfl) (fun _ _ h => h) (by kernel_rfl) (by kernel_rfl) rfl (by kernel_rfl) ?_
      refine xe_done (by kernel_rfl) ?_
      refine xw_false (by kernel_rfl) ?_
      refine xw_skip ?_
      refine xw_seq ?_
      refine xw_region ?_
      refine xl_end [2] ⟨[(2, .v (.bool true))], [⟨32, conL c (.slice ra_c_r_heldV c.r.held.length rc_c_r_heldV)⟩, ⟨42, conL c (.slice v4a c.r.held.length v4c)⟩], [], [ownF w.heap.size (.slice v6a c.r.held.length v6c) 2 (c.r.held.map pceCells), ownF w.heap.size (.slice v4a c.r.held.length v4c) 2 (c.r.held.map pceCells), ownF w.heap.size (.slice v3a c.r.held.length v3c) 2 (c.r.held.map pceCells), slF (.slice ra_c_r_heldV c.r.held.length rc_c_r_heldV) 2 (c.r.held.map pceCells)]⟩ (by kernel_rfl) ?_
      refine xw_ret ?_
      exact ⟨[.bool true], by kernel_rfl, fun w' hb hf => ⟨rfl, hb⟩⟩

set_option maxRecDepth 100000 in
theorem fnExactUnsent_lifted (os : Os) (started : os.Started) (H : Type) (enc : TypeId × Value → H) :
    ReturnsInHanded {} Try.checked os 3 .any (Rows.fnExactUnsentSpec.pre6 enc Try.prog Try.f3 Rows.fnExactUnsentRow.domain false) (Rows.fnExactUnsentSpec.post enc Try.prog Try.f3 false true false false) := by
  refine returnsInHanded_of_change (C := Try.checked) Try.ownK started (by kernel_rfl) Try.func3
    (ChangeSpec.witness6 (enc := enc) (C := Try.checked) false ⟨#[], #[.agg #[.int .i64 0, .int .i64 0, .int .i64 0, .int .i64 0, .int .i64 0, .string ⟨#[]⟩, .int .i64 0, .bool false, .bool false, .bool false, .int .i64 0, .string ⟨#[]⟩, .slice none 0 0, .int .i64 0, .bool false, .int .i64 0, .int .i64 0, .int .i64 0, .int .i64 0, .bool false, .bool false, .int .i64 0, .int .i64 0, .int .i64 0, .int .i64 0]], []⟩ 8 (by kernel_rfl) (by kernel_rfl) (by kernel_rfl) (by kernel_rfl)) ?_
  intro W base args ds gs before hval0 hW hcnd _
  have hval : ∀ (j : Nat) t v, Try.f3.params[j]? = some t → args[j]? = some v → Value.okWide Try.prog W .any base t v := hval0
  have hW' := hW
  obtain ⟨p, q, hA0, hV, rfl, hfz, hnd⟩ := hW
  have hA : DataW.TrodAll enc Try.prog W 0 (fun _ => true) true Try.f3.params.toList args.toList ds p := hA0
  rw [Try.params3] at hA hval
  obtain ⟨v0, vs0, d0, ds0, p0, q0, hargs, rfl, rfl, h0, r0⟩ := trodAll_cons hA
  obtain ⟨rfl, rfl, rfl⟩ := trodAll_nil r0
  obtain rfl : args = #[v0] := by cases args; simp_all
  obtain ⟨rfl, rfl⟩ := trodVars_none hV
  clear hA0 hval0
  have g0 := h0
  obtain ⟨cs0, rfl, -⟩ := okWide_struct Try.underlying32 (hval 0 _ v0 rfl rfl)
  obtain ⟨fuel0, f0⟩ := g0
  obtain ⟨c_t_ip, c_t_port, c_t_my, c_state, c_s_una, c_s_data, c_s_sent, c_s_fin, c_s_finSent, c_s_done, c_r_next, c_r_data, c_r_held_v, c_r_fin, c_r_done, c_window, c_most, c_o_mss, c_o_scale, c_o_sack, c_o_stamp, c_o_val, c_o_echo, c_timer, c_tries, e0, F_c_t_ip, F_c_t_port, F_c_t_my, F_c_state, F_c_s_una, F_c_s_data, F_c_s_sent, F_c_r_next, F_c_r_data, F_c_r_held, F_c_r_fin, F_c_window, F_c_most, F_c_o_mss, F_c_o_scale, F_c_o_val, F_c_o_echo, F_c_timer, F_c_tries⟩ := open_CON f0
  obtain rfl : cs0 = #[.int .i64 c_t_ip, .int .i64 c_t_port, .int .i64 c_t_my, .int .i64 c_state, .int .i64 c_s_una, .string c_s_data, .int .i64 c_s_sent, .bool c_s_fin, .bool c_s_finSent, .bool c_s_done, .int .i64 c_r_next, .string c_r_data, c_r_held_v, .int .i64 c_r_fin, .bool c_r_done, .int .i64 c_window, .int .i64 c_most, .int .i64 c_o_mss, .int .i64 c_o_scale, .bool c_o_sack, .bool c_o_stamp, .int .i64 c_o_val, .int .i64 c_o_echo, .int .i64 c_timer, .int .i64 c_tries] := by cases cs0; simpa [Value.cells] using e0
  clear e0
  obtain ⟨_, _, T_c_r_held⟩ := F_c_r_held
  obtain ⟨c_r_held, L_c_r_held, M_c_r_held⟩ := openSc_PCE T_c_r_held
  refine (fnExactUnsent_walk (⟨⟨c_t_ip, c_t_port, c_t_my⟩, c_state, ⟨c_s_una, c_s_data, c_s_sent, c_s_fin, c_s_finSent, c_s_done⟩, ⟨c_r_next, c_r_data, c_r_held, c_r_fin, c_r_done⟩, c_window, c_most, ⟨c_o_mss, c_o_scale, c_o_sack, c_o_stamp, c_o_val, c_o_echo⟩, c_timer, c_tries⟩ : Con) c_r_held_v W F_c_s_data F_c_r_data L_c_r_held M_c_r_held).mono fun e W' ⟨he, hb⟩ => ?_
  subst he
  have hlt : ∀ x ∈ (p0 ++ ([])) ++ [], x.block < W.heap.size := fun x hx => hW'.lt x hx
  refine ⟨_, rfl, post_of_below (pa := (p0 ++ ([]))) (pv := []) hW' (fun _ _ _ => trodAll_cons_mk (shut_bool Try.underlying4 _) trodAll_mk0) (fun sp hsp => trodAll_cons_mk (WideElems.Trod_stays Try.laidOut (by kernel_rfl) (of_decide_eq_true (by kernel_rfl)) h0 (fun x hx => hb.same (hlt x (List.mem_append_left _ (List.mem_append_left _ hx)))) (fun x hx => hsp x (List.mem_append_left _ (List.mem_append_left _ hx)))) (trodAll_mk0)) (fun _ _ => rfl) rfl hb (ok_one (by kernel_rfl) rfl (okWide_bool_mk Try.underlying4 _))⟩

theorem fnExactUnsent_over : Rows.fnExactUnsentRow.holds Try.pinned (OpenSpec.ofChange Rows.fnExactUnsentSpec) :=
  OpenClaim.holds_of_wide 3 Try.f3 rfl rfl rfl rfl rfl rfl rfl ⟨rfl, rfl, rfl, rfl, rfl⟩ rfl rfl rfl rfl rfl (by kernel_rfl) Try.func3 (by kernel_rfl)
    (of_decide_eq_true (by kernel_rfl)) (by unfold Func.isWrapper; first | (rw [if_pos (by decide +kernel)]; kernel_rfl) | (rw [if_neg (by decide +kernel)]; exact ⟨rfl, rfl⟩))
    (fun os started H enc _ => fnExactUnsent_lifted os started H enc)

theorem fnExactUnsent_holds : Rows.FnExactUnsentSaid := fnExactUnsent_over
#print axioms fnExactUnsent_holds
end Go.Proofs.Ytjfamgkkenccdaa
