/- The law FnExactShut holds: for every argument the program's function answers true and leaves its arguments as they were. Conditions: none beyond the given row's. -/
import Derived.Test.YtjfamgkkenccdaaZ2
namespace Go.Proofs.Ytjfamgkkenccdaa
open Go.RowKit Go.ChangeShapes Go.WideShapes Go.ChangeAt
set_option linter.unusedVariables false
set_option linter.unusedSimpArgs false

set_option maxRecDepth 100000 in
set_option maxHeartbeats 2000000 in
theorem fnExactShut_walk (c : Con) (c_r_heldV : Value) (w : World) (hs_c_s_data : c.s.data.size ≤ maxLen) (hs_c_r_data : c.r.data.size ≤ maxLen) (hl_c_r_heldV : Sl w c_r_heldV 2 (c.r.held.map pceCells)) (hm_c_r_heldV : ∀ p ∈ c.r.held, p.text.size ≤ maxLen) : Calls Try.prog 11 #[.agg (conL c c_r_heldV).toArray] w fun e w' => e = .returned (.bool true) ∧ Below w.heap.size w w' := by
  obtain ⟨Acrh,Ccrh,hvcrh⟩ := hl_c_r_heldV.form
  rw [List.length_map] at hvcrh; subst hvcrh
  have hncrh := hl_c_r_heldV.len; rw [List.length_map] at hncrh
  refine x_calls (args := [.agg (conL c (.slice Acrh c.r.held.length Ccrh)).toArray]) (fn := Try.f11) [slF (.slice Acrh c.r.held.length Ccrh) 2 (c.r.held.map pceCells)] Try.func11 rfl Try.ntmps11 rfl (by simp only [List.mem_cons,List.not_mem_nil,or_false,forall_eq_or_imp,forall_eq]; exact ⟨rfl,hl_c_r_heldV⟩) ?_
  refine xw_seq ?_
  refine xw_region ?_
  refine xl_end [1] ⟨[(1,.p 0 0)],[⟨32,conL c (.slice Acrh c.r.held.length Ccrh)⟩],[],[slF (.slice Acrh c.r.held.length Ccrh) 2 (c.r.held.map pceCells)]⟩ (by kernel_rfl) ?_
  refine xw_seq ?_
  refine xw_region ?_
  refine xl_endS [1,3] [(1,.p 0 0),(3,.v (.int .i64 1048576))] (by kernel_rfl) ?_
  refine xw_seq ?_
  refine xw_region ?_
  refine xl_callS 2 [1,3,14,15] [(1,.p 0 0),(3,.v (.int .i64 1048576)),(14,.v (.agg (conL c (.slice Acrh c.r.held.length Ccrh)).toArray)),(15,.v (.int .i64 1048576))] 15 [.agg (conL c (.slice Acrh c.r.held.length Ccrh)).toArray,.int .i64 1048576] (some 16) (by kernel_rfl) rfl (by kernel_rfl) rfl (by kernel_rfl) (xc_e (α := Int) (F := fun y => .int .i64 y) (p := fun r => r = -1 ∨ (0 ≤ r ∧ r ≤ 1048576 ∧ ConFit 1048576 c)) fun ww hf => szConn_c c.t.ip c.t.port c.t.my c.state c.s.una c.s.data c.s.sent c.s.fin c.s.finSent c.s.done c.r.next c.r.data c.r.held (.slice Acrh c.r.held.length Ccrh) c.r.fin c.r.done c.window c.most c.o.mss c.o.scale c.o.sack c.o.stamp c.o.val c.o.echo c.timer c.tries 1048576 ww (hf (slF (.slice Acrh c.r.held.length Ccrh) 2 (c.r.held.map pceCells)) (by simp)) hm_c_r_heldV (by omega) (by omega) hs_c_r_data hs_c_s_data) ?_
  rintro ⟨r1,hr1⟩
  refine xl_endS [1,3] [(1,.p 0 0),(3,.v (.int .i64 r1))] (by kernel_rfl) ?_
  refine xw_seq ?_
  refine xw_seq ?_
  refine xw_region ?_
  refine xl_endS [1,18] [(1,.p 0 0),(18,.v (.bool (decide (r1 < 0))))] (by kernel_rfl) ?_
  refine xw_cond (b := decide (r1 < 0)) (by kernel_rfl) (fun h2 => ?_) (fun h2 => ?_)
  have h2p : (r1 < 0) := of_decide_eq_true h2
  refine xw_seq ?_
  refine xw_region ?_
  refine xl_endS [2] [(2,.v (.bool true))] (by kernel_rfl) ?_
  refine xw_ret ?_
  exact ⟨[.bool true],by kernel_rfl,fun w' hb hf => ⟨rfl,hb⟩⟩
  have h2p : ¬ (r1 < 0) := of_decide_eq_false h2
  rcases hr1 with hr1 | ⟨hr1a,hr1b,hr1c⟩
  · omega
  obtain ⟨hr11,hr12,hr13,hr14⟩ := hr1c
  have hknr1 : c.r.held.length ≤ 1048576 := by omega
  have hmr1 : ∀ p ∈ c.r.held,p.text.size ≤ 1048576 := fun p hp => by have := hr14 p hp; omega
  refine xw_skip ?_
  refine xw_seq ?_
  refine xw_region ?_
  refine xl_callS 1 [1,20] [(1,.p 0 0),(20,.v (.agg (conL c (.slice Acrh c.r.held.length Ccrh)).toArray))] 17 [.agg (conL c (.slice Acrh c.r.held.length Ccrh)).toArray] (some 21) (by kernel_rfl) rfl (by kernel_rfl) rfl (by kernel_rfl) (xc_on (m := c.r.held.length) (F := fun v' => .agg (conL c v').toArray) (List.length_map ..) fun ww hf => toConn_c c.t.ip c.t.port c.t.my c.state c.s.una c.s.data c.s.sent c.s.fin c.s.finSent c.s.done c.r.next c.r.data c.r.held (.slice Acrh c.r.held.length Ccrh) c.r.fin c.r.done c.window c.most c.o.mss c.o.scale c.o.sack c.o.stamp c.o.val c.o.echo c.timer c.tries ww (hf (slF (.slice Acrh c.r.held.length Ccrh) 2 (c.r.held.map pceCells)) (by simp)) (by omega)) ?_
  rintro ⟨v3a,v3c⟩
  refine xl_callS 0 [1,21] [(1,.p 0 0),(21,.v (.agg (conL c (.slice v3a c.r.held.length v3c)).toArray))] 45 [.agg (conL c (.slice v3a c.r.held.length v3c)).toArray] (some 22) (by kernel_rfl) rfl (by kernel_rfl) rfl (by kernel_rfl) (xc_r fun ww hw hf => ysShut_c c (.slice v3a c.r.held.length v3c) ww (Own.sl (hf (ownF w.heap.size (.slice v3a c.r.held.length v3c) 2 (c.r.held.map pceCells)) (by simp))) (by assumption) (by assumption) (by omega) w.heap.size hw) ?_
  rintro ⟨⟨v4a,v4c⟩,⟨v5a,v5c⟩⟩
  have hbd6 : (shut c).1.r.held.length ≤ 1048576 ∧ (shut c).2.length ≤ 49 := shut_bd _  (by omega)
  have hbd6a := hbd6.1; have hbd6b := hbd6.2
  refine xl_end [1,4,5] ⟨[(1,.p 0 0),(4,.p 1 0),(5,.v (.slice v5a ((shut c).2.length) v5c))],[⟨32,conL c (.slice Acrh c.r.held.length Ccrh)⟩,⟨42,conL (shut c).1 (.slice v4a ((shut c).1.r.held.length) v4c)⟩],[],[ownF w.heap.size (.slice v4a ((shut c).1.r.held.length) v4c) 2 ((shut c).1.r.held.map pceCells),ownF w.heap.size (.slice v5a ((shut c).2.length) v5c) 13 ((shut c).2.map segCells),ownF w.heap.size (.slice v3a c.r.held.length v3c) 2 (c.r.held.map pceCells),slF (.slice Acrh c.r.held.length Ccrh) 2 (c.r.held.map pceCells)]⟩ (by kernel_rfl) ?_
  refine xw_seq ?_
  refine xw_region ?_
  refine xl_callS 1 [1,4,5,25] [(1,.p 0 0),(4,.p 1 0),(5,.v (.slice v5a ((shut c).2.length) v5c)),(25,.v (.agg (conL c (.slice Acrh c.r.held.length Ccrh)).toArray))] 17 [.agg (conL c (.slice Acrh c.r.held.length Ccrh)).toArray] (some 26) (by kernel_rfl) rfl (by kernel_rfl) rfl (by kernel_rfl) (xc_on (m := c.r.held.length) (F := fun v' => .agg (conL c v').toArray) (List.length_map ..) fun ww hf => toConn_c c.t.ip c.t.port c.t.my c.state c.s.una c.s.data c.s.sent c.s.fin c.s.finSent c.s.done c.r.next c.r.data c.r.held (.slice Acrh c.r.held.length Ccrh) c.r.fin c.r.done c.window c.most c.o.mss c.o.scale c.o.sack c.o.stamp c.o.val c.o.echo c.timer c.tries ww (hf (slF (.slice Acrh c.r.held.length Ccrh) 2 (c.r.held.map pceCells)) (by simp)) (by omega)) ?_
  rintro ⟨v7a,v7c⟩
  refine xl_end [1,4,5,6] ⟨[(1,.p 0 0),(4,.p 1 0),(5,.v (.slice v5a ((shut c).2.length) v5c)),(6,.p 2 0)],[⟨32,conL c (.slice Acrh c.r.held.length Ccrh)⟩,⟨42,conL (shut c).1 (.slice v4a ((shut c).1.r.held.length) v4c)⟩,⟨42,conL c (.slice v7a c.r.held.length v7c)⟩],[],[ownF w.heap.size (.slice v7a c.r.held.length v7c) 2 (c.r.held.map pceCells),ownF w.heap.size (.slice v4a ((shut c).1.r.held.length) v4c) 2 ((shut c).1.r.held.map pceCells),ownF w.heap.size (.slice v5a ((shut c).2.length) v5c) 13 ((shut c).2.map segCells),ownF w.heap.size (.slice v3a c.r.held.length v3c) 2 (c.r.held.map pceCells),slF (.slice Acrh c.r.held.length Ccrh) 2 (c.r.held.map pceCells)]⟩ (by kernel_rfl) ?_
  refine xw_seq ?_
  refine xw_region ?_
  refine xl_callS 1 [1,4,5,6,28] [(1,.p 0 0),(4,.p 1 0),(5,.v (.slice v5a ((shut c).2.length) v5c)),(6,.p 2 0),(28,.v (.agg (conL c (.slice v7a c.r.held.length v7c)).toArray))] 46 [.agg (conL c (.slice v7a c.r.held.length v7c)).toArray] (some 29) (by kernel_rfl) rfl (by kernel_rfl) rfl (by kernel_rfl) (xc_r fun ww hw hf => yiShut_c c (.slice v7a c.r.held.length v7c) ww (Own.sl (hf (ownF w.heap.size (.slice v7a c.r.held.length v7c) 2 (c.r.held.map pceCells)) (by simp))) (by assumption) (by assumption) (by omega) w.heap.size hw) ?_
  rintro ⟨⟨v8a,v8c⟩,⟨v9a,v9c⟩⟩
  have hbd10 : (shut c).1.r.held.length ≤ 1048576 ∧ (shut c).2.length ≤ 49 := shut_bd _  (by omega)
  have hbd10a := hbd10.1; have hbd10b := hbd10.2
  refine xl_end [1,4,5,6,7,8] ⟨[(1,.p 0 0),(4,.p 1 0),(5,.v (.slice v5a ((shut c).2.length) v5c)),(6,.p 2 0),(7,.p 3 0),(8,.v (.slice v9a ((shut c).2.length) v9c))],[⟨32,conL c (.slice Acrh c.r.held.length Ccrh)⟩,⟨42,conL (shut c).1 (.slice v4a ((shut c).1.r.held.length) v4c)⟩,⟨42,conL c (.slice v7a c.r.held.length v7c)⟩,⟨42,conL (shut c).1 (.slice v8a ((shut c).1.r.held.length) v8c)⟩],[],[ownF w.heap.size (.slice v8a ((shut c).1.r.held.length) v8c) 2 ((shut c).1.r.held.map pceCells),ownF w.heap.size (.slice v9a ((shut c).2.length) v9c) 13 ((shut c).2.map segCells),ownF w.heap.size (.slice v7a c.r.held.length v7c) 2 (c.r.held.map pceCells),ownF w.heap.size (.slice v4a ((shut c).1.r.held.length) v4c) 2 ((shut c).1.r.held.map pceCells),ownF w.heap.size (.slice v5a ((shut c).2.length) v5c) 13 ((shut c).2.map segCells),ownF w.heap.size (.slice v3a c.r.held.length v3c) 2 (c.r.held.map pceCells),slF (.slice Acrh c.r.held.length Ccrh) 2 (c.r.held.map pceCells)]⟩ (by kernel_rfl) ?_
  refine xw_seq ?_
  refine xw_seq ?_
  refine xw_region ?_
  refine xl_callS 2 [1,4,5,6,7,8,32,33] [(1,.p 0 0),(4,.p 1 0),(5,.v (.slice v5a ((shut c).2.length) v5c)),(6,.p 2 0),(7,.p 3 0),(8,.v (.slice v9a ((shut c).2.length) v9c)),(32,.v (.agg (conL (shut c).1 (.slice v8a ((shut c).1.r.held.length) v8c)).toArray)),(33,.v (.agg (conL (shut c).1 (.slice v4a ((shut c).1.r.held.length) v4c)).toArray))] 19 [.agg (conL (shut c).1 (.slice v8a ((shut c).1.r.held.length) v8c)).toArray,.agg (conL (shut c).1 (.slice v4a ((shut c).1.r.held.length) v4c)).toArray] (some 34) (by kernel_rfl) rfl (by kernel_rfl) rfl (by kernel_rfl) (xc_b fun ww hf => eqConn_c ((shut c).1.t.ip) ((shut c).1.t.port) ((shut c).1.t.my) ((shut c).1.state) ((shut c).1.s.una) ((shut c).1.s.data) ((shut c).1.s.sent) ((shut c).1.s.fin) ((shut c).1.s.finSent) ((shut c).1.s.done) ((shut c).1.r.next) ((shut c).1.r.data) ((shut c).1.r.held) (.slice v8a ((shut c).1.r.held.length) v8c) ((shut c).1.r.fin) ((shut c).1.r.done) ((shut c).1.window) ((shut c).1.most) ((shut c).1.o.mss) ((shut c).1.o.scale) ((shut c).1.o.sack) ((shut c).1.o.stamp) ((shut c).1.o.val) ((shut c).1.o.echo) ((shut c).1.timer) ((shut c).1.tries) (.slice v4a ((shut c).1.r.held.length) v4c) ww (Own.sl (hf (ownF w.heap.size (.slice v8a ((shut c).1.r.held.length) v8c) 2 ((shut c).1.r.held.map pceCells)) (by simp))) (Own.sl (hf (ownF w.heap.size (.slice v4a ((shut c).1.r.held.length) v4c) 2 ((shut c).1.r.held.map pceCells)) (by simp)))) ?_
  intro _
  refine xl_callS 4 [1,4,5,6,7,8,36,37,38] [(1,.p 0 0),(4,.p 1 0),(5,.v (.slice v5a ((shut c).2.length) v5c)),(6,.p 2 0),(7,.p 3 0),(8,.v (.slice v9a ((shut c).2.length) v9c)),(36,.v (.bool false)),(37,.v (.slice v9a ((shut c).2.length) v9c)),(38,.v (.slice v5a ((shut c).2.length) v5c))] 38 [.slice v9a ((shut c).2.length) v9c,.slice v5a ((shut c).2.length) v5c] (some 39) (by kernel_rfl) rfl (by kernel_rfl) rfl (by kernel_rfl) (xc_b fun ww hf => yeqSegmentS_c ((shut c).2) (.slice v9a ((shut c).2.length) v9c) (.slice v5a ((shut c).2.length) v5c) ww (Own.sl (hf (ownF w.heap.size (.slice v9a ((shut c).2.length) v9c) 13 ((shut c).2.map segCells)) (by simp))) (Own.sl (hf (ownF w.heap.size (.slice v5a ((shut c).2.length) v5c) 13 ((shut c).2.map segCells)) (by simp))) ) ?_
  intro _
  refine xl_endS [1,4,5,6,7,8,41] [(1,.p 0 0),(4,.p 1 0),(5,.v (.slice v5a ((shut c).2.length) v5c)),(6,.p 2 0),(7,.p 3 0),(8,.v (.slice v9a ((shut c).2.length) v9c)),(41,.v (.bool false))] (by kernel_rfl) ?_
  refine xw_false (by kernel_rfl) ?_
  refine xw_skip ?_
  refine xw_seq ?_
  refine xw_seq ?_
  refine xe_region [] (by kernel_rfl) (fun ρ σ => ?_)
  refine xe_tkS [0,1] [43,42,1,4,5,6,7,8] 3 [(43,.v (.agg (conL c (.slice Acrh c.r.held.length Ccrh)).toArray)),(42,.v (.agg (conL c (.slice v7a c.r.held.length v7c)).toArray)),(1,.p 0 0),(4,.p 1 0),(5,.v (.slice v5a ((shut c).2.length) v5c)),(6,.p 2 0),(7,.p 3 0),(8,.v (.slice v9a ((shut c).2.length) v9c))] (fun _ _ h => h) rfl (by kernel_rfl) ?_
  refine xe_all [2] (by kernel_rfl) (by simp) ?_
  refine xs_call 2 17 [.agg (conL c (.slice Acrh c.r.held.length Ccrh)).toArray] (some 44) rfl (by kernel_rfl) rfl (by kernel_rfl) (xc_on (m := c.r.held.length) (F := fun v' => .agg (conL c v').toArray) (List.length_map ..) fun ww hf => toConn_c c.t.ip c.t.port c.t.my c.state c.s.una c.s.data c.s.sent c.s.fin c.s.finSent c.s.done c.r.next c.r.data c.r.held (.slice Acrh c.r.held.length Ccrh) c.r.fin c.r.done c.window c.most c.o.mss c.o.scale c.o.sack c.o.stamp c.o.val c.o.echo c.timer c.tries ww (hf (slF (.slice Acrh c.r.held.length Ccrh) 2 (c.r.held.map pceCells)) (by simp)) (by omega)) ?_
  rintro ⟨v11a,v11c⟩
  refine xe_all [3] (by kernel_rfl) (by simp) ?_
  refine xs_call 3 19 [.agg (conL c (.slice v7a c.r.held.length v7c)).toArray,.agg (conL c (.slice v11a c.r.held.length v11c)).toArray] (some 45) rfl (by kernel_rfl) rfl (by kernel_rfl) (xc_b fun ww hf => eqConn_c c.t.ip c.t.port c.t.my c.state c.s.una c.s.data c.s.sent c.s.fin c.s.finSent c.s.done c.r.next c.r.data c.r.held (.slice v7a c.r.held.length v7c) c.r.fin c.r.done c.window c.most c.o.mss c.o.scale c.o.sack c.o.stamp c.o.val c.o.echo c.timer c.tries (.slice v11a c.r.held.length v11c) ww (Own.sl (hf (ownF w.heap.size (.slice v7a c.r.held.length v7c) 2 (c.r.held.map pceCells)) (by simp))) (Own.sl (hf (ownF w.heap.size (.slice v11a c.r.held.length v11c) 2 (c.r.held.map pceCells)) (by simp)))) ?_
  intro _
  refine xe_tkS [4] [46,1,4,5,6,7,8] 0 [(46,.v (.bool false)),(1,.p 0 0),(4,.p 1 0),(5,.v (.slice v5a ((shut c).2.length) v5c)),(6,.p 2 0),(7,.p 3 0),(8,.v (.slice v9a ((shut c).2.length) v9c))] (fun _ _ h => h) rfl (by kernel_rfl) ?_
  refine xe_done (by kernel_rfl) ?_
  refine xw_false (by kernel_rfl) ?_
  refine xw_skip ?_
  refine xw_seq ?_
  refine xw_region ?_
  refine xl_endS [1,4,5,6,7,8,9] [(1,.p 0 0),(4,.p 1 0),(5,.v (.slice v5a ((shut c).2.length) v5c)),(6,.p 2 0),(7,.p 3 0),(8,.v (.slice v9a ((shut c).2.length) v9c)),(9,.v (.int .i64 1))] (by kernel_rfl) ?_
  refine xw_seq ?_
  refine xw_region ?_
  refine xl_callWS 2 [1,4,5,7,8,9,47,48] [(1,.p 0 0),(4,.p 1 0),(5,.v (.slice v5a ((shut c).2.length) v5c)),(7,.p 3 0),(8,.v (.slice v9a ((shut c).2.length) v9c)),(9,.v (.int .i64 1)),(47,.v (.agg (conL c (.slice v7a c.r.held.length v7c)).toArray)),(48,.v (.int .i64 1))] 34 [.agg (conL c (.slice v7a c.r.held.length v7c)).toArray,.int .i64 1] (some 49) 3 (ownF w.heap.size (.slice v7a c.r.held.length v7c) 2 (c.r.held.map pceCells)) (by kernel_rfl) rfl (by kernel_rfl) rfl (by kernel_rfl) rfl rfl (fun ww b h hb => vblk_lo h hb) (by kernel_rfl) (xcm_own marks_ne fun ww hw hf => ymarkConn_c c (.slice v7a c.r.held.length v7c) 1 ww w.heap.size hw (hf (ownF w.heap.size (.slice v7a c.r.held.length v7c) 2 (c.r.held.map pceCells)) (by simp)) (by omega) (by omega) (by omega)) ?_
  intro _
  refine xl_endS [1,4,5,7,8,9] [(1,.p 0 0),(4,.p 1 0),(5,.v (.slice v5a ((shut c).2.length) v5c)),(7,.p 3 0),(8,.v (.slice v9a ((shut c).2.length) v9c)),(9,.v (.int .i64 (1 + 2 * (c.r.held.length : Int))))] (by kernel_rfl) ?_
  refine xw_seq ?_
  refine xw_seq ?_
  refine xw_region ?_
  refine xl_runS 3 [1,4,5,7,8,52] [(1,.p 0 0),(4,.p 1 0),(5,.v (.slice v5a ((shut c).2.length) v5c)),(7,.p 3 0),(8,.v (.slice v9a ((shut c).2.length) v9c)),(52,.v (.bool (decide ((1 + 2 * (c.r.held.length : Int)) < 0))))] (by kernel_rfl) ?_
  refine xl_split 52 (b := decide ((1 + 2 * (c.r.held.length : Int)) < 0)) (by kernel_rfl) (fun h12 => ?_) (fun h12 => ?_)
  have h12p : ((1 + 2 * (c.r.held.length : Int)) < 0) := of_decide_eq_true h12
  exfalso; have := of_decide_eq_true h12; omega
  have h12p : ¬ ((1 + 2 * (c.r.held.length : Int)) < 0) := of_decide_eq_false h12
  refine xl_callS 2 [1,4,5,7,8,52,53,54] [(1,.p 0 0),(4,.p 1 0),(5,.v (.slice v5a ((shut c).2.length) v5c)),(7,.p 3 0),(8,.v (.slice v9a ((shut c).2.length) v9c)),(52,.v (.bool false)),(53,.v (.agg (conL (shut c).1 (.slice v8a ((shut c).1.r.held.length) v8c)).toArray)),(54,.v (.agg (conL (shut c).1 (.slice v4a ((shut c).1.r.held.length) v4c)).toArray))] 19 [.agg (conL (shut c).1 (.slice v8a ((shut c).1.r.held.length) v8c)).toArray,.agg (conL (shut c).1 (.slice v4a ((shut c).1.r.held.length) v4c)).toArray] (some 55) (by kernel_rfl) rfl (by kernel_rfl) rfl (by kernel_rfl) (xc_b fun ww hf => eqConn_c ((shut c).1.t.ip) ((shut c).1.t.port) ((shut c).1.t.my) ((shut c).1.state) ((shut c).1.s.una) ((shut c).1.s.data) ((shut c).1.s.sent) ((shut c).1.s.fin) ((shut c).1.s.finSent) ((shut c).1.s.done) ((shut c).1.r.next) ((shut c).1.r.data) ((shut c).1.r.held) (.slice v8a ((shut c).1.r.held.length) v8c) ((shut c).1.r.fin) ((shut c).1.r.done) ((shut c).1.window) ((shut c).1.most) ((shut c).1.o.mss) ((shut c).1.o.scale) ((shut c).1.o.sack) ((shut c).1.o.stamp) ((shut c).1.o.val) ((shut c).1.o.echo) ((shut c).1.timer) ((shut c).1.tries) (.slice v4a ((shut c).1.r.held.length) v4c) ww (Own.sl (hf (ownF w.heap.size (.slice v8a ((shut c).1.r.held.length) v8c) 2 ((shut c).1.r.held.map pceCells)) (by simp))) (Own.sl (hf (ownF w.heap.size (.slice v4a ((shut c).1.r.held.length) v4c) 2 ((shut c).1.r.held.map pceCells)) (by simp)))) ?_
  intro _
  refine xl_callS 5 [1,4,5,7,8,58,59,60] [(1,.p 0 0),(4,.p 1 0),(5,.v (.slice v5a ((shut c).2.length) v5c)),(7,.p 3 0),(8,.v (.slice v9a ((shut c).2.length) v9c)),(58,.v (.bool false)),(59,.v (.slice v9a ((shut c).2.length) v9c)),(60,.v (.slice v5a ((shut c).2.length) v5c))] 38 [.slice v9a ((shut c).2.length) v9c,.slice v5a ((shut c).2.length) v5c] (some 61) (by kernel_rfl) rfl (by kernel_rfl) rfl (by kernel_rfl) (xc_b fun ww hf => yeqSegmentS_c ((shut c).2) (.slice v9a ((shut c).2.length) v9c) (.slice v5a ((shut c).2.length) v5c) ww (Own.sl (hf (ownF w.heap.size (.slice v9a ((shut c).2.length) v9c) 13 ((shut c).2.map segCells)) (by simp))) (Own.sl (hf (ownF w.heap.size (.slice v5a ((shut c).2.length) v5c) 13 ((shut c).2.map segCells)) (by simp))) ) ?_
  intro _
  refine xl_endS [1,4,5,7,8,63] [(1,.p 0 0),(4,.p 1 0),(5,.v (.slice v5a ((shut c).2.length) v5c)),(7,.p 3 0),(8,.v (.slice v9a ((shut c).2.length) v9c)),(63,.v (.bool false))] (by kernel_rfl) ?_
  refine xw_false (by kernel_rfl) ?_
  refine xw_skip ?_
  refine xw_seq ?_
  refine xw_region ?_
  refine xl_endS [1,4,5,7,8,10] [(1,.p 0 0),(4,.p 1 0),(5,.v (.slice v5a ((shut c).2.length) v5c)),(7,.p 3 0),(8,.v (.slice v9a ((shut c).2.length) v9c)),(10,.v (.int .i64 1))] (by kernel_rfl) ?_
  refine xw_seq ?_
  refine xw_region ?_
  refine xl_callWS 2 [1,4,5,7,8,10,64,65] [(1,.p 0 0),(4,.p 1 0),(5,.v (.slice v5a ((shut c).2.length) v5c)),(7,.p 3 0),(8,.v (.slice v9a ((shut c).2.length) v9c)),(10,.v (.int .i64 1)),(64,.v (.agg (conL (shut c).1 (.slice v8a ((shut c).1.r.held.length) v8c)).toArray)),(65,.v (.int .i64 1))] 34 [.agg (conL (shut c).1 (.slice v8a ((shut c).1.r.held.length) v8c)).toArray,.int .i64 1] (some 66) 2 (ownF w.heap.size (.slice v8a ((shut c).1.r.held.length) v8c) 2 ((shut c).1.r.held.map pceCells)) (by kernel_rfl) rfl (by kernel_rfl) rfl (by kernel_rfl) rfl rfl (fun ww b h hb => vblk_lo h hb) (by kernel_rfl) (xcm_own marks_ne fun ww hw hf => ymarkConn_c ((shut c).1) (.slice v8a ((shut c).1.r.held.length) v8c) 1 ww w.heap.size hw (hf (ownF w.heap.size (.slice v8a ((shut c).1.r.held.length) v8c) 2 ((shut c).1.r.held.map pceCells)) (by simp)) (by omega) (by omega) (by omega)) ?_
  intro _
  refine xl_endS [1,4,5,7,8,10] [(1,.p 0 0),(4,.p 1 0),(5,.v (.slice v5a ((shut c).2.length) v5c)),(7,.p 3 0),(8,.v (.slice v9a ((shut c).2.length) v9c)),(10,.v (.int .i64 (1 + 2 * (((shut c).1.r.held).length : Int))))] (by kernel_rfl) ?_
  refine xw_seq ?_
  refine xw_region ?_
  refine xl_callWS 2 [1,4,5,7,8,10,67,68] [(1,.p 0 0),(4,.p 1 0),(5,.v (.slice v5a ((shut c).2.length) v5c)),(7,.p 3 0),(8,.v (.slice v9a ((shut c).2.length) v9c)),(10,.v (.int .i64 (1 + 2 * (((shut c).1.r.held).length : Int)))),(67,.v (.slice v9a ((shut c).2.length) v9c)),(68,.v (.int .i64 (1 + 2 * (((shut c).1.r.held).length : Int))))] 39 [.slice v9a ((shut c).2.length) v9c,.int .i64 (1 + 2 * (((shut c).1.r.held).length : Int))] (some 69) 3 (ownF w.heap.size (.slice v9a ((shut c).2.length) v9c) 13 ((shut c).2.map segCells)) (by kernel_rfl) rfl (by kernel_rfl) rfl (by kernel_rfl) rfl rfl (fun ww b h hb => vblk_lo h hb) (by kernel_rfl) (xcm_own marks_ne fun ww hw hf => ymarkSegmentS_c (.slice v9a ((shut c).2.length) v9c) ((shut c).2) (1 + 2 * (((shut c).1.r.held).length : Int)) ww w.heap.size hw (hf (ownF w.heap.size (.slice v9a ((shut c).2.length) v9c) 13 ((shut c).2.map segCells)) (by simp)) (by omega) (by omega) (by omega)) ?_
  intro _
  refine xl_endS [1,4,5,7,8,10] [(1,.p 0 0),(4,.p 1 0),(5,.v (.slice v5a ((shut c).2.length) v5c)),(7,.p 3 0),(8,.v (.slice v9a ((shut c).2.length) v9c)),(10,.v (.int .i64 ((1 + 2 * (((shut c).1.r.held).length : Int)) + 13 * (((shut c).2).length : Int))))] (by kernel_rfl) ?_
  refine xw_seq ?_
  refine xw_region ?_
  refine xl_endS [1,4,5,7,8,10,11] [(1,.p 0 0),(4,.p 1 0),(5,.v (.slice v5a ((shut c).2.length) v5c)),(7,.p 3 0),(8,.v (.slice v9a ((shut c).2.length) v9c)),(10,.v (.int .i64 ((1 + 2 * (((shut c).1.r.held).length : Int)) + 13 * (((shut c).2).length : Int)))),(11,.v (.int .i64 1))] (by kernel_rfl) ?_
  refine xw_seq ?_
  refine xw_region ?_
  refine xl_callS 2 [1,4,5,7,8,10,11,70,71] [(1,.p 0 0),(4,.p 1 0),(5,.v (.slice v5a ((shut c).2.length) v5c)),(7,.p 3 0),(8,.v (.slice v9a ((shut c).2.length) v9c)),(10,.v (.int .i64 ((1 + 2 * (((shut c).1.r.held).length : Int)) + 13 * (((shut c).2).length : Int)))),(11,.v (.int .i64 1)),(70,.v (.agg (conL { (shut c).1 with r := { (shut c).1.r with held := (marks mkP 2 1 ((shut c).1.r.held).length) } } (.slice v8a ((shut c).1.r.held.length) v8c)).toArray)),(71,.v (.int .i64 1))] 35 [.agg (conL { (shut c).1 with r := { (shut c).1.r with held := (marks mkP 2 1 ((shut c).1.r.held).length) } } (.slice v8a ((shut c).1.r.held.length) v8c)).toArray,.int .i64 1] (some 72) (by kernel_rfl) rfl (by kernel_rfl) rfl (by kernel_rfl) (xc_b fun ww hf => yheldConn_m ((shut c).1.r.held).length ((shut c).1.t.ip) ((shut c).1.t.port) ((shut c).1.t.my) ((shut c).1.state) ((shut c).1.s.una) ((shut c).1.s.data) ((shut c).1.s.sent) ((shut c).1.s.fin) ((shut c).1.s.finSent) ((shut c).1.s.done) ((shut c).1.r.next) ((shut c).1.r.data) ((shut c).1.r.fin) ((shut c).1.r.done) ((shut c).1.window) ((shut c).1.most) ((shut c).1.o.mss) ((shut c).1.o.scale) ((shut c).1.o.sack) ((shut c).1.o.stamp) ((shut c).1.o.val) ((shut c).1.o.echo) ((shut c).1.timer) ((shut c).1.tries) (.slice v8a ((shut c).1.r.held.length) v8c) 1 ww (Own.sl (hf (ownF w.heap.size (.slice v8a ((shut c).1.r.held.length) v8c) 2 ((marks mkP 2 1 ((shut c).1.r.held).length).map pceCells)) (by simp))) (by omega) (by omega) (by omega)) ?_
  intro _
  refine xl_endS [1,4,5,7,8,10,11] [(1,.p 0 0),(4,.p 1 0),(5,.v (.slice v5a ((shut c).2.length) v5c)),(7,.p 3 0),(8,.v (.slice v9a ((shut c).2.length) v9c)),(10,.v (.int .i64 ((1 + 2 * (((shut c).1.r.held).length : Int)) + 13 * (((shut c).2).length : Int)))),(11,.v (.int .i64 (1 + 2 * (((shut c).1.r.held).length : Int))))] (by kernel_rfl) ?_
  refine xw_seq ?_
  refine xw_seq ?_
  refine xw_region ?_
  refine xl_endS [1,4,5,7,8,10,11,74] [(1,.p 0 0),(4,.p 1 0),(5,.v (.slice v5a ((shut c).2.length) v5c)),(7,.p 3 0),(8,.v (.slice v9a ((shut c).2.length) v9c)),(10,.v (.int .i64 ((1 + 2 * (((shut c).1.r.held).length : Int)) + 13 * (((shut c).2).length : Int)))),(11,.v (.int .i64 (1 + 2 * (((shut c).1.r.held).length : Int)))),(74,.v (.bool (decide ((1 + 2 * (((shut c).1.r.held).length : Int)) < 0))))] (by kernel_rfl) ?_
  refine xw_cond (b := decide ((1 + 2 * (((shut c).1.r.held).length : Int)) < 0)) (by kernel_rfl) (fun h13 => ?_) (fun h13 => ?_)
  have h13p : ((1 + 2 * (((shut c).1.r.held).length : Int)) < 0) := of_decide_eq_true h13
  exfalso; have := of_decide_eq_true h13; omega
  have h13p : ¬ ((1 + 2 * (((shut c).1.r.held).length : Int)) < 0) := of_decide_eq_false h13
  refine xw_skip ?_
  refine xw_seq ?_
  refine xw_region ?_
  refine xl_callS 2 [1,4,5,7,8,10,11,75,76] [(1,.p 0 0),(4,.p 1 0),(5,.v (.slice v5a ((shut c).2.length) v5c)),(7,.p 3 0),(8,.v (.slice v9a ((shut c).2.length) v9c)),(10,.v (.int .i64 ((1 + 2 * (((shut c).1.r.held).length : Int)) + 13 * (((shut c).2).length : Int)))),(11,.v (.int .i64 (1 + 2 * (((shut c).1.r.held).length : Int)))),(75,.v (.slice v9a ((shut c).2.length) v9c)),(76,.v (.int .i64 (1 + 2 * (((shut c).1.r.held).length : Int))))] 40 [.slice v9a ((shut c).2.length) v9c,.int .i64 (1 + 2 * (((shut c).1.r.held).length : Int))] (some 77) (by kernel_rfl) rfl (by kernel_rfl) rfl (by kernel_rfl) (xc_b fun ww hf => yheldSegmentS_m ((shut c).2).length  (.slice v9a ((shut c).2.length) v9c) (1 + 2 * (((shut c).1.r.held).length : Int)) ww (Own.sl (hf (ownF w.heap.size (.slice v9a ((shut c).2.length) v9c) 13 ((marks mkS 13 (1 + 2 * (((shut c).1.r.held).length : Int)) ((shut c).2).length).map segCells)) (by simp))) (by omega) (by omega) (by omega)) ?_
  intro _
  refine xl_endS [1,4,5,7,8,10,11] [(1,.p 0 0),(4,.p 1 0),(5,.v (.slice v5a ((shut c).2.length) v5c)),(7,.p 3 0),(8,.v (.slice v9a ((shut c).2.length) v9c)),(10,.v (.int .i64 ((1 + 2 * (((shut c).1.r.held).length : Int)) + 13 * (((shut c).2).length : Int)))),(11,.v (.int .i64 ((1 + 2 * (((shut c).1.r.held).length : Int)) + 13 * (((shut c).2).length : Int))))] (by kernel_rfl) ?_
  refine xw_seq ?_
  refine xw_seq ?_
  refine xw_region ?_
  refine xl_endS [1,4,5,7,8,10,11,79] [(1,.p 0 0),(4,.p 1 0),(5,.v (.slice v5a ((shut c).2.length) v5c)),(7,.p 3 0),(8,.v (.slice v9a ((shut c).2.length) v9c)),(10,.v (.int .i64 ((1 + 2 * (((shut c).1.r.held).length : Int)) + 13 * (((shut c).2).length : Int)))),(11,.v (.int .i64 ((1 + 2 * (((shut c).1.r.held).length : Int)) + 13 * (((shut c).2).length : Int)))),(79,.v (.bool (decide (((1 + 2 * (((shut c).1.r.held).length : Int)) + 13 * (((shut c).2).length : Int)) < 0))))] (by kernel_rfl) ?_
  refine xw_cond (b := decide (((1 + 2 * (((shut c).1.r.held).length : Int)) + 13 * (((shut c).2).length : Int)) < 0)) (by kernel_rfl) (fun h14 => ?_) (fun h14 => ?_)
  have h14p : (((1 + 2 * (((shut c).1.r.held).length : Int)) + 13 * (((shut c).2).length : Int)) < 0) := of_decide_eq_true h14
  exfalso; have := of_decide_eq_true h14; omega
  have h14p : ¬ (((1 + 2 * (((shut c).1.r.held).length : Int)) + 13 * (((shut c).2).length : Int)) < 0) := of_decide_eq_false h14
  refine xw_skip ?_
  refine xw_seq ?_
  refine xw_seq ?_
  refine xw_region ?_
  refine xl_endS [1,4,5,7,8,10,82] [(1,.p 0 0),(4,.p 1 0),(5,.v (.slice v5a ((shut c).2.length) v5c)),(7,.p 3 0),(8,.v (.slice v9a ((shut c).2.length) v9c)),(10,.v (.int .i64 ((1 + 2 * (((shut c).1.r.held).length : Int)) + 13 * (((shut c).2).length : Int)))),(82,.v (.bool (((1 + 2 * (((shut c).1.r.held).length : Int)) + 13 * (((shut c).2).length : Int)) != ((1 + 2 * (((shut c).1.r.held).length : Int)) + 13 * (((shut c).2).length : Int)))))] (by kernel_rfl) ?_
  refine xw_cond (b := ((1 + 2 * (((shut c).1.r.held).length : Int)) + 13 * (((shut c).2).length : Int)) != ((1 + 2 * (((shut c).1.r.held).length : Int)) + 13 * (((shut c).2).length : Int))) (by kernel_rfl) (fun h15 => ?_) (fun h15 => ?_)
  simp at h15
  have h15p := neF h15
  refine xw_skip ?_
  refine xw_seq ?_
  refine xw_region ?_
  refine xl_callS 1 [4,5,7,8,10,84] [(4,.p 1 0),(5,.v (.slice v5a ((shut c).2.length) v5c)),(7,.p 3 0),(8,.v (.slice v9a ((shut c).2.length) v9c)),(10,.v (.int .i64 ((1 + 2 * (((shut c).1.r.held).length : Int)) + 13 * (((shut c).2).length : Int)))),(84,.v (.agg (conL c (.slice Acrh c.r.held.length Ccrh)).toArray))] 17 [.agg (conL c (.slice Acrh c.r.held.length Ccrh)).toArray] (some 85) (by kernel_rfl) rfl (by kernel_rfl) rfl (by kernel_rfl) (xc_on (m := c.r.held.length) (F := fun v' => .agg (conL c v').toArray) (List.length_map ..) fun ww hf => toConn_c c.t.ip c.t.port c.t.my c.state c.s.una c.s.data c.s.sent c.s.fin c.s.finSent c.s.done c.r.next c.r.data c.r.held (.slice Acrh c.r.held.length Ccrh) c.r.fin c.r.done c.window c.most c.o.mss c.o.scale c.o.sack c.o.stamp c.o.val c.o.echo c.timer c.tries ww (hf (slF (.slice Acrh c.r.held.length Ccrh) 2 (c.r.held.map pceCells)) (by simp)) (by omega)) ?_
  rintro ⟨v16a,v16c⟩
  refine xl_callS 0 [4,5,7,8,10,85] [(4,.p 1 0),(5,.v (.slice v5a ((shut c).2.length) v5c)),(7,.p 3 0),(8,.v (.slice v9a ((shut c).2.length) v9c)),(10,.v (.int .i64 ((1 + 2 * (((shut c).1.r.held).length : Int)) + 13 * (((shut c).2).length : Int)))),(85,.v (.agg (conL c (.slice v16a c.r.held.length v16c)).toArray))] 46 [.agg (conL c (.slice v16a c.r.held.length v16c)).toArray] (some 86) (by kernel_rfl) rfl (by kernel_rfl) rfl (by kernel_rfl) (xc_r fun ww hw hf => yiShut_c c (.slice v16a c.r.held.length v16c) ww (Own.sl (hf (ownF w.heap.size (.slice v16a c.r.held.length v16c) 2 (c.r.held.map pceCells)) (by simp))) (by assumption) (by assumption) (by omega) w.heap.size hw) ?_
  rintro ⟨⟨v17a,v17c⟩,⟨v18a,v18c⟩⟩
  have hbd19 : (shut c).1.r.held.length ≤ 1048576 ∧ (shut c).2.length ≤ 49 := shut_bd _  (by omega)
  have hbd19a := hbd19.1; have hbd19b := hbd19.2
  refine xl_end [4,5,7,8,10,12,13] ⟨[(4,.p 1 0),(5,.v (.slice v5a ((shut c).2.length) v5c)),(7,.p 3 0),(8,.v (.slice v9a ((shut c).2.length) v9c)),(10,.v (.int .i64 ((1 + 2 * (((shut c).1.r.held).length : Int)) + 13 * (((shut c).2).length : Int)))),(12,.p 4 0),(13,.v (.slice v18a ((shut c).2.length) v18c))],[⟨32,conL c (.slice Acrh c.r.held.length Ccrh)⟩,⟨42,conL (shut c).1 (.slice v4a ((shut c).1.r.held.length) v4c)⟩,⟨42,conL { c with r := { c.r with held := (marks mkP 2 1 c.r.held.length) } } (.slice v7a c.r.held.length v7c)⟩,⟨42,conL { (shut c).1 with r := { (shut c).1.r with held := (marks mkP 2 1 ((shut c).1.r.held).length) } } (.slice v8a ((shut c).1.r.held.length) v8c)⟩,⟨42,conL (shut c).1 (.slice v17a ((shut c).1.r.held.length) v17c)⟩],[],[ownF w.heap.size (.slice v17a ((shut c).1.r.held.length) v17c) 2 ((shut c).1.r.held.map pceCells),ownF w.heap.size (.slice v18a ((shut c).2.length) v18c) 13 ((shut c).2.map segCells),ownF w.heap.size (.slice v16a c.r.held.length v16c) 2 (c.r.held.map pceCells),ownF w.heap.size (.slice v9a ((shut c).2.length) v9c) 13 ((marks mkS 13 (1 + 2 * (((shut c).1.r.held).length : Int)) ((shut c).2).length).map segCells),ownF w.heap.size (.slice v8a ((shut c).1.r.held.length) v8c) 2 ((marks mkP 2 1 ((shut c).1.r.held).length).map pceCells),ownF w.heap.size (.slice v7a c.r.held.length v7c) 2 ((marks mkP 2 1 c.r.held.length).map pceCells),ownF w.heap.size (.slice v11a c.r.held.length v11c) 2 (c.r.held.map pceCells),ownF w.heap.size (.slice v4a ((shut c).1.r.held.length) v4c) 2 ((shut c).1.r.held.map pceCells),ownF w.heap.size (.slice v5a ((shut c).2.length) v5c) 13 ((shut c).2.map segCells),ownF w.heap.size (.slice v3a c.r.held.length v3c) 2 (c.r.held.map pceCells),slF (.slice Acrh c.r.held.length Ccrh) 2 (c.r.held.map pceCells)]⟩ (by kernel_rfl) ?_
  refine xw_seq ?_
  refine xw_seq ?_
  refine xw_region ?_
  refine xl_callS 2 [5,7,8,10,13,89,90] [(5,.v (.slice v5a ((shut c).2.length) v5c)),(7,.p 3 0),(8,.v (.slice v9a ((shut c).2.length) v9c)),(10,.v (.int .i64 ((1 + 2 * (((shut c).1.r.held).length : Int)) + 13 * (((shut c).2).length : Int)))),(13,.v (.slice v18a ((shut c).2.length) v18c)),(89,.v (.agg (conL (shut c).1 (.slice v17a ((shut c).1.r.held.length) v17c)).toArray)),(90,.v (.agg (conL (shut c).1 (.slice v4a ((shut c).1.r.held.length) v4c)).toArray))] 19 [.agg (conL (shut c).1 (.slice v17a ((shut c).1.r.held.length) v17c)).toArray,.agg (conL (shut c).1 (.slice v4a ((shut c).1.r.held.length) v4c)).toArray] (some 91) (by kernel_rfl) rfl (by kernel_rfl) rfl (by kernel_rfl) (xc_b fun ww hf => eqConn_c ((shut c).1.t.ip) ((shut c).1.t.port) ((shut c).1.t.my) ((shut c).1.state) ((shut c).1.s.una) ((shut c).1.s.data) ((shut c).1.s.sent) ((shut c).1.s.fin) ((shut c).1.s.finSent) ((shut c).1.s.done) ((shut c).1.r.next) ((shut c).1.r.data) ((shut c).1.r.held) (.slice v17a ((shut c).1.r.held.length) v17c) ((shut c).1.r.fin) ((shut c).1.r.done) ((shut c).1.window) ((shut c).1.most) ((shut c).1.o.mss) ((shut c).1.o.scale) ((shut c).1.o.sack) ((shut c).1.o.stamp) ((shut c).1.o.val) ((shut c).1.o.echo) ((shut c).1.timer) ((shut c).1.tries) (.slice v4a ((shut c).1.r.held.length) v4c) ww (Own.sl (hf (ownF w.heap.size (.slice v17a ((shut c).1.r.held.length) v17c) 2 ((shut c).1.r.held.map pceCells)) (by simp))) (Own.sl (hf (ownF w.heap.size (.slice v4a ((shut c).1.r.held.length) v4c) 2 ((shut c).1.r.held.map pceCells)) (by simp)))) ?_
  intro _
  refine xl_callS 4 [7,8,10,93,94,95] [(7,.p 3 0),(8,.v (.slice v9a ((shut c).2.length) v9c)),(10,.v (.int .i64 ((1 + 2 * (((shut c).1.r.held).length : Int)) + 13 * (((shut c).2).length : Int)))),(93,.v (.bool false)),(94,.v (.slice v18a ((shut c).2.length) v18c)),(95,.v (.slice v5a ((shut c).2.length) v5c))] 38 [.slice v18a ((shut c).2.length) v18c,.slice v5a ((shut c).2.length) v5c] (some 96) (by kernel_rfl) rfl (by kernel_rfl) rfl (by kernel_rfl) (xc_b fun ww hf => yeqSegmentS_c ((shut c).2) (.slice v18a ((shut c).2.length) v18c) (.slice v5a ((shut c).2.length) v5c) ww (Own.sl (hf (ownF w.heap.size (.slice v18a ((shut c).2.length) v18c) 13 ((shut c).2.map segCells)) (by simp))) (Own.sl (hf (ownF w.heap.size (.slice v5a ((shut c).2.length) v5c) 13 ((shut c).2.map segCells)) (by simp))) ) ?_
  intro _
  refine xl_endS [7,8,10,98] [(7,.p 3 0),(8,.v (.slice v9a ((shut c).2.length) v9c)),(10,.v (.int .i64 ((1 + 2 * (((shut c).1.r.held).length : Int)) + 13 * (((shut c).2).length : Int)))),(98,.v (.bool false))] (by kernel_rfl) ?_
  refine xw_false (by kernel_rfl) ?_
  refine xw_skip ?_
  refine xw_seq ?_
  refine xw_region ?_
  refine xl_endS [7,8,10,11] [(7,.p 3 0),(8,.v (.slice v9a ((shut c).2.length) v9c)),(10,.v (.int .i64 ((1 + 2 * (((shut c).1.r.held).length : Int)) + 13 * (((shut c).2).length : Int)))),(11,.v (.int .i64 1))] (by kernel_rfl) ?_
  refine xw_seq ?_
  refine xw_region ?_
  refine xl_callS 2 [8,10,11,99,100] [(8,.v (.slice v9a ((shut c).2.length) v9c)),(10,.v (.int .i64 ((1 + 2 * (((shut c).1.r.held).length : Int)) + 13 * (((shut c).2).length : Int)))),(11,.v (.int .i64 1)),(99,.v (.agg (conL { (shut c).1 with r := { (shut c).1.r with held := (marks mkP 2 1 ((shut c).1.r.held).length) } } (.slice v8a ((shut c).1.r.held.length) v8c)).toArray)),(100,.v (.int .i64 1))] 35 [.agg (conL { (shut c).1 with r := { (shut c).1.r with held := (marks mkP 2 1 ((shut c).1.r.held).length) } } (.slice v8a ((shut c).1.r.held.length) v8c)).toArray,.int .i64 1] (some 101) (by kernel_rfl) rfl (by kernel_rfl) rfl (by kernel_rfl) (xc_b fun ww hf => yheldConn_m ((shut c).1.r.held).length ((shut c).1.t.ip) ((shut c).1.t.port) ((shut c).1.t.my) ((shut c).1.state) ((shut c).1.s.una) ((shut c).1.s.data) ((shut c).1.s.sent) ((shut c).1.s.fin) ((shut c).1.s.finSent) ((shut c).1.s.done) ((shut c).1.r.next) ((shut c).1.r.data) ((shut c).1.r.fin) ((shut c).1.r.done) ((shut c).1.window) ((shut c).1.most) ((shut c).1.o.mss) ((shut c).1.o.scale) ((shut c).1.o.sack) ((shut c).1.o.stamp) ((shut c).1.o.val) ((shut c).1.o.echo) ((shut c).1.timer) ((shut c).1.tries) (.slice v8a ((shut c).1.r.held.length) v8c) 1 ww (Own.sl (hf (ownF w.heap.size (.slice v8a ((shut c).1.r.held.length) v8c) 2 ((marks mkP 2 1 ((shut c).1.r.held).length).map pceCells)) (by simp))) (by omega) (by omega) (by omega)) ?_
  intro _
  refine xl_endS [8,10,11] [(8,.v (.slice v9a ((shut c).2.length) v9c)),(10,.v (.int .i64 ((1 + 2 * (((shut c).1.r.held).length : Int)) + 13 * (((shut c).2).length : Int)))),(11,.v (.int .i64 (1 + 2 * (((shut c).1.r.held).length : Int))))] (by kernel_rfl) ?_
  refine xw_seq ?_
  refine xw_seq ?_
  refine xw_region ?_
  refine xl_endS [8,10,11,103] [(8,.v (.slice v9a ((shut c).2.length) v9c)),(10,.v (.int .i64 ((1 + 2 * (((shut c).1.r.held).length : Int)) + 13 * (((shut c).2).length : Int)))),(11,.v (.int .i64 (1 + 2 * (((shut c).1.r.held).length : Int)))),(103,.v (.bool (decide ((1 + 2 * (((shut c).1.r.held).length : Int)) < 0))))] (by kernel_rfl) ?_
  refine xw_cond (b := decide ((1 + 2 * (((shut c).1.r.held).length : Int)) < 0)) (by kernel_rfl) (fun h20 => ?_) (fun h20 => ?_)
  have h20p : ((1 + 2 * (((shut c).1.r.held).length : Int)) < 0) := of_decide_eq_true h20
  exfalso; have := of_decide_eq_true h20; omega
  have h20p : ¬ ((1 + 2 * (((shut c).1.r.held).length : Int)) < 0) := of_decide_eq_false h20
  refine xw_skip ?_
  refine xw_seq ?_
  refine xw_region ?_
  refine xl_callS 2 [10,11,104,105] [(10,.v (.int .i64 ((1 + 2 * (((shut c).1.r.held).length : Int)) + 13 * (((shut c).2).length : Int)))),(11,.v (.int .i64 (1 + 2 * (((shut c).1.r.held).length : Int)))),(104,.v (.slice v9a ((shut c).2.length) v9c)),(105,.v (.int .i64 (1 + 2 * (((shut c).1.r.held).length : Int))))] 40 [.slice v9a ((shut c).2.length) v9c,.int .i64 (1 + 2 * (((shut c).1.r.held).length : Int))] (some 106) (by kernel_rfl) rfl (by kernel_rfl) rfl (by kernel_rfl) (xc_b fun ww hf => yheldSegmentS_m ((shut c).2).length  (.slice v9a ((shut c).2.length) v9c) (1 + 2 * (((shut c).1.r.held).length : Int)) ww (Own.sl (hf (ownF w.heap.size (.slice v9a ((shut c).2.length) v9c) 13 ((marks mkS 13 (1 + 2 * (((shut c).1.r.held).length : Int)) ((shut c).2).length).map segCells)) (by simp))) (by omega) (by omega) (by omega)) ?_
  intro _
  refine xl_endS [10,11] [(10,.v (.int .i64 ((1 + 2 * (((shut c).1.r.held).length : Int)) + 13 * (((shut c).2).length : Int)))),(11,.v (.int .i64 ((1 + 2 * (((shut c).1.r.held).length : Int)) + 13 * (((shut c).2).length : Int))))] (by kernel_rfl) ?_
  refine xw_seq ?_
  refine xw_seq ?_
  refine xw_region ?_
  refine xl_endS [10,11,108] [(10,.v (.int .i64 ((1 + 2 * (((shut c).1.r.held).length : Int)) + 13 * (((shut c).2).length : Int)))),(11,.v (.int .i64 ((1 + 2 * (((shut c).1.r.held).length : Int)) + 13 * (((shut c).2).length : Int)))),(108,.v (.bool (decide (((1 + 2 * (((shut c).1.r.held).length : Int)) + 13 * (((shut c).2).length : Int)) < 0))))] (by kernel_rfl) ?_
  refine xw_cond (b := decide (((1 + 2 * (((shut c).1.r.held).length : Int)) + 13 * (((shut c).2).length : Int)) < 0)) (by kernel_rfl) (fun h21 => ?_) (fun h21 => ?_)
  have h21p : (((1 + 2 * (((shut c).1.r.held).length : Int)) + 13 * (((shut c).2).length : Int)) < 0) := of_decide_eq_true h21
  exfalso; have := of_decide_eq_true h21; omega
  have h21p : ¬ (((1 + 2 * (((shut c).1.r.held).length : Int)) + 13 * (((shut c).2).length : Int)) < 0) := of_decide_eq_false h21
  refine xw_skip ?_
  refine xw_seq ?_
  refine xw_seq ?_
  refine xw_region ?_
  refine xl_endS [111] [(111,.v (.bool (((1 + 2 * (((shut c).1.r.held).length : Int)) + 13 * (((shut c).2).length : Int)) != ((1 + 2 * (((shut c).1.r.held).length : Int)) + 13 * (((shut c).2).length : Int)))))] (by kernel_rfl) ?_
  refine xw_cond (b := ((1 + 2 * (((shut c).1.r.held).length : Int)) + 13 * (((shut c).2).length : Int)) != ((1 + 2 * (((shut c).1.r.held).length : Int)) + 13 * (((shut c).2).length : Int))) (by kernel_rfl) (fun h22 => ?_) (fun h22 => ?_)
  simp at h22
  have h22p := neF h22
  refine xw_skip ?_
  refine xw_seq ?_
  refine xw_region ?_
  refine xl_endS [2] [(2,.v (.bool true))] (by kernel_rfl) ?_
  refine xw_ret ?_
  exact ⟨[.bool true],by kernel_rfl,fun w' hb hf => ⟨rfl,hb⟩⟩

set_option maxRecDepth 100000 in
theorem fnExactShut_lifted (os : Os) (started : os.Started) (H : Type) (enc : TypeId × Value → H) :
    ReturnsInHanded {} Try.checked os 11 .any (Rows.fnExactShutSpec.pre6 enc Try.prog Try.f11 Rows.fnExactShutRow.domain false) (Rows.fnExactShutSpec.post enc Try.prog Try.f11 false true false false) := by
  refine returnsInHanded_of_change (C := Try.checked) Try.ownK started (by kernel_rfl) Try.func11
    (ChangeSpec.witness6 (enc := enc) (C := Try.checked) false ⟨#[], #[.agg #[.int .i64 0, .int .i64 0, .int .i64 0, .int .i64 0, .int .i64 0, .string ⟨#[]⟩, .int .i64 0, .bool false, .bool false, .bool false, .int .i64 0, .string ⟨#[]⟩, .slice none 0 0, .int .i64 0, .bool false, .int .i64 0, .int .i64 0, .int .i64 0, .int .i64 0, .bool false, .bool false, .int .i64 0, .int .i64 0, .int .i64 0, .int .i64 0]], []⟩ 8 (by kernel_rfl) (by kernel_rfl) (by kernel_rfl) (by kernel_rfl)) ?_
  intro W base args ds gs before hval0 hW hcnd _
  have hval : ∀ (j : Nat) t v, Try.f11.params[j]? = some t → args[j]? = some v → Value.okWide Try.prog W .any base t v := hval0
  have hW' := hW
  obtain ⟨p, q, hA0, hV, rfl, hfz, hnd⟩ := hW
  have hA : DataW.TrodAll enc Try.prog W 0 (fun _ => true) true Try.f11.params.toList args.toList ds p := hA0
  rw [Try.params11] at hA hval
  obtain ⟨v0, vs0, d0, ds0, p0, q0, hargs, rfl, rfl, h0, r0⟩ := trodAll_cons hA
  obtain ⟨rfl, rfl, rfl⟩ := trodAll_nil r0
  obtain rfl : args = #[v0] := by cases args; simp_all
  obtain ⟨rfl, rfl⟩ := trodVars_none hV
  clear hA0 hval0
  have g0 := h0
  obtain ⟨cs0, rfl, -⟩ := okWide_struct Try.underlying32 (hval 0 _ v0 rfl rfl)
  obtain ⟨fuel0, f0⟩ := g0
  obtain ⟨c_t_ip, c_t_port, c_t_my, c_state, c_s_una, c_s_data, c_s_sent, c_s_fin, c_s_finSent, c_s_done, c_r_next, c_r_data, c_r_held_v, c_r_fin, c_r_done, c_window, c_most, c_o_mss, c_o_scale, c_o_sack, c_o_stamp, c_o_val, c_o_echo, c_timer, c_tries, e0, F_c_t_ip, F_c_t_port, F_c_t_my, F_c_state, F_c_s_una, F_c_s_data, F_c_s_sent, F_c_r_next, F_c_r_data, F_c_r_held, F_c_r_fin, F_c_window, F_c_most, F_c_o_mss, F_c_o_scale, F_c_o_val, F_c_o_echo, F_c_timer, F_c_tries⟩ := open_CON f0
  obtain rfl : cs0 = #[.int .i64 c_t_ip, .int .i64 c_t_port, .int .i64 c_t_my, .int .i64 c_state, .int .i64 c_s_una, .string c_s_data, .int .i64 c_s_sent, .bool c_s_fin, .bool c_s_finSent, .bool c_s_done, .int .i64 c_r_next, .string c_r_data, c_r_held_v, .int .i64 c_r_fin, .bool c_r_done, .int .i64 c_window, .int .i64 c_most, .int .i64 c_o_mss, .int .i64 c_o_scale, .bool c_o_sack, .bool c_o_stamp, .int .i64 c_o_val, .int .i64 c_o_echo, .int .i64 c_timer, .int .i64 c_tries] := by cases cs0; simpa [Value.cells] using e0
  clear e0
  obtain ⟨_, _, T_c_r_held⟩ := F_c_r_held
  obtain ⟨c_r_held, L_c_r_held, M_c_r_held⟩ := openSc_PCE T_c_r_held
  refine (fnExactShut_walk (⟨⟨c_t_ip, c_t_port, c_t_my⟩, c_state, ⟨c_s_una, c_s_data, c_s_sent, c_s_fin, c_s_finSent, c_s_done⟩, ⟨c_r_next, c_r_data, c_r_held, c_r_fin, c_r_done⟩, c_window, c_most, ⟨c_o_mss, c_o_scale, c_o_sack, c_o_stamp, c_o_val, c_o_echo⟩, c_timer, c_tries⟩ : Con) c_r_held_v W F_c_s_data F_c_r_data L_c_r_held M_c_r_held).mono fun e W' ⟨he, hb⟩ => ?_
  subst he
  have hlt : ∀ x ∈ (p0 ++ ([])) ++ [], x.block < W.heap.size := fun x hx => hW'.lt x hx
  refine ⟨_, rfl, post_of_below (pa := (p0 ++ ([]))) (pv := []) hW' (fun _ _ _ => trodAll_cons_mk (shut_bool Try.underlying4 _) trodAll_mk0) (fun sp hsp => trodAll_cons_mk (WideElems.Trod_stays Try.laidOut (by kernel_rfl) (of_decide_eq_true (by kernel_rfl)) h0 (fun x hx => hb.same (hlt x (List.mem_append_left _ (List.mem_append_left _ hx)))) (fun x hx => hsp x (List.mem_append_left _ (List.mem_append_left _ hx)))) (trodAll_mk0)) (fun _ _ => rfl) rfl hb (ok_one (by kernel_rfl) rfl (okWide_bool_mk Try.underlying4 _))⟩

theorem fnExactShut_over : Rows.fnExactShutRow.holds Try.pinned (OpenSpec.ofChange Rows.fnExactShutSpec) :=
  OpenClaim.holds_of_wide 11 Try.f11 rfl rfl rfl rfl rfl rfl rfl ⟨rfl, rfl, rfl, rfl, rfl⟩ rfl rfl rfl rfl rfl (by kernel_rfl) Try.func11 (by kernel_rfl)
    (of_decide_eq_true (by kernel_rfl)) (by unfold Func.isWrapper; first | (rw [if_pos (by decide +kernel)]; kernel_rfl) | (rw [if_neg (by decide +kernel)]; exact ⟨rfl, rfl⟩))
    (fun os started H enc _ => fnExactShut_lifted os started H enc)

theorem fnExactShut_holds : Rows.FnExactShutSaid := fnExactShut_over
#print axioms fnExactShut_holds
end Go.Proofs.Ytjfamgkkenccdaa
