/- The law FnExactWrite holds: for every argument the program's function answers true and leaves its arguments as they were. Conditions: none beyond the given row's. -/
import Derived.Test.YtjfamgkkenccdaaZ3
import Derived.Test.YtjfamgkkenccdaaOT
namespace Go.Proofs.Ytjfamgkkenccdaa
open Go.RowKit Go.ChangeShapes Go.WideShapes Go.ChangeAt
set_option linter.unusedVariables false
set_option linter.unusedSimpArgs false

set_option maxRecDepth 100000 in
set_option maxHeartbeats 2000000 in
theorem fnExactWrite_walk (c : Con) (c_r_heldV : Value) (text : ByteArray) (w : World) (hs_c_s_data : c.s.data.size ≤ maxLen) (hs_c_r_data : c.r.data.size ≤ maxLen) (hl_c_r_heldV : Sl w c_r_heldV 2 (c.r.held.map pceCells)) (hm_c_r_heldV : ∀ p ∈ c.r.held, p.text.size ≤ maxLen) (hs_text : text.size ≤ maxLen) : Calls Try.prog 12 #[.agg (conL c c_r_heldV).toArray, .string text] w fun e w' => e = .returned (.bool true) ∧ Below w.heap.size w w' := by
  obtain ⟨Acrh,Ccrh,hvcrh⟩ := hl_c_r_heldV.form
  rw [List.length_map] at hvcrh; subst hvcrh
  have hncrh := hl_c_r_heldV.len; rw [List.length_map] at hncrh
  refine x_calls (args := [.agg (conL c (.slice Acrh c.r.held.length Ccrh)).toArray,.string text]) (fn := Try.f12) [slF (.slice Acrh c.r.held.length Ccrh) 2 (c.r.held.map pceCells)] Try.func12 rfl Try.ntmps12 rfl (by simp only [List.mem_cons,List.not_mem_nil,or_false,forall_eq_or_imp,forall_eq]; exact ⟨rfl,hl_c_r_heldV⟩) ?_
  refine xw_seq ?_
  refine xw_region ?_
  refine xl_end [1,2] ⟨[(1,.v (.string text)),(2,.p 0 0)],[⟨32,conL c (.slice Acrh c.r.held.length Ccrh)⟩],[],[slF (.slice Acrh c.r.held.length Ccrh) 2 (c.r.held.map pceCells)]⟩ (by kernel_rfl) ?_
  refine xw_seq ?_
  refine xw_seq ?_
  refine xw_region ?_
  refine xl_endS [1,2,21] [(1,.v (.string text)),(2,.p 0 0),(21,.v (.bool (decide ((text.size : Int) > 1048576))))] (by kernel_rfl) ?_
  refine xw_cond (b := decide ((text.size : Int) > 1048576)) (by kernel_rfl) (fun h1 => ?_) (fun h1 => ?_)
  have h1p : ((text.size : Int) > 1048576) := of_decide_eq_true h1
  refine xw_seq ?_
  refine xw_region ?_
  refine xl_endS [4] [(4,.v (.bool true))] (by kernel_rfl) ?_
  refine xw_ret ?_
  exact ⟨[.bool true],by kernel_rfl,fun w' hb hf => ⟨rfl,hb⟩⟩
  have h1p : ¬ ((text.size : Int) > 1048576) := of_decide_eq_false h1
  refine xw_skip ?_
  refine xw_seq ?_
  refine xw_region ?_
  refine xl_endS [1,2,5] [(1,.v (.string text)),(2,.p 0 0),(5,.v (.int .i64 1048576))] (by kernel_rfl) ?_
  refine xw_seq ?_
  refine xw_region ?_
  refine xl_callS 2 [1,2,5,22,23] [(1,.v (.string text)),(2,.p 0 0),(5,.v (.int .i64 1048576)),(22,.v (.agg (conL c (.slice Acrh c.r.held.length Ccrh)).toArray)),(23,.v (.int .i64 1048576))] 15 [.agg (conL c (.slice Acrh c.r.held.length Ccrh)).toArray,.int .i64 1048576] (some 24) (by kernel_rfl) rfl (by kernel_rfl) rfl (by kernel_rfl) (xc_e (α := Int) (F := fun y => .int .i64 y) (p := fun r => r = -1 ∨ (0 ≤ r ∧ r ≤ 1048576 ∧ ConFit 1048576 c)) fun ww hf => szConn_c c.t.ip c.t.port c.t.my c.state c.s.una c.s.data c.s.sent c.s.fin c.s.finSent c.s.done c.r.next c.r.data c.r.held (.slice Acrh c.r.held.length Ccrh) c.r.fin c.r.done c.window c.most c.o.mss c.o.scale c.o.sack c.o.stamp c.o.val c.o.echo c.timer c.tries 1048576 ww (hf (slF (.slice Acrh c.r.held.length Ccrh) 2 (c.r.held.map pceCells)) (by simp)) hm_c_r_heldV (by omega) (by omega) hs_c_r_data hs_c_s_data) ?_
  rintro ⟨r2,hr2⟩
  refine xl_endS [1,2,5] [(1,.v (.string text)),(2,.p 0 0),(5,.v (.int .i64 r2))] (by kernel_rfl) ?_
  refine xw_seq ?_
  refine xw_seq ?_
  refine xw_region ?_
  refine xl_endS [1,2,26] [(1,.v (.string text)),(2,.p 0 0),(26,.v (.bool (decide (r2 < 0))))] (by kernel_rfl) ?_
  refine xw_cond (b := decide (r2 < 0)) (by kernel_rfl) (fun h3 => ?_) (fun h3 => ?_)
  have h3p : (r2 < 0) := of_decide_eq_true h3
  refine xw_seq ?_
  refine xw_region ?_
  refine xl_endS [4] [(4,.v (.bool true))] (by kernel_rfl) ?_
  refine xw_ret ?_
  exact ⟨[.bool true],by kernel_rfl,fun w' hb hf => ⟨rfl,hb⟩⟩
  have h3p : ¬ (r2 < 0) := of_decide_eq_false h3
  rcases hr2 with hr2 | ⟨hr2a,hr2b,hr2c⟩
  · omega
  obtain ⟨hr21,hr22,hr23,hr24⟩ := hr2c
  have hknr2 : c.r.held.length ≤ 1048576 := by omega
  have hmr2 : ∀ p ∈ c.r.held,p.text.size ≤ 1048576 := fun p hp => by have := hr24 p hp; omega
  refine xw_skip ?_
  refine xw_seq ?_
  refine xw_region ?_
  refine xl_callS 1 [1,2,28] [(1,.v (.string text)),(2,.p 0 0),(28,.v (.agg (conL c (.slice Acrh c.r.held.length Ccrh)).toArray))] 17 [.agg (conL c (.slice Acrh c.r.held.length Ccrh)).toArray] (some 29) (by kernel_rfl) rfl (by kernel_rfl) rfl (by kernel_rfl) (xc_on (m := c.r.held.length) (F := fun v' => .agg (conL c v').toArray) (List.length_map ..) fun ww hf => toConn_c c.t.ip c.t.port c.t.my c.state c.s.una c.s.data c.s.sent c.s.fin c.s.finSent c.s.done c.r.next c.r.data c.r.held (.slice Acrh c.r.held.length Ccrh) c.r.fin c.r.done c.window c.most c.o.mss c.o.scale c.o.sack c.o.stamp c.o.val c.o.echo c.timer c.tries ww (hf (slF (.slice Acrh c.r.held.length Ccrh) 2 (c.r.held.map pceCells)) (by simp)) (by omega)) ?_
  rintro ⟨v4a,v4c⟩
  refine xl_callS 1 [1,2,29,30] [(1,.v (.string text)),(2,.p 0 0),(29,.v (.agg (conL c (.slice v4a c.r.held.length v4c)).toArray)),(30,.v (.string text))] 47 [.agg (conL c (.slice v4a c.r.held.length v4c)).toArray,.string text] (some 31) (by kernel_rfl) rfl (by kernel_rfl) rfl (by kernel_rfl) (xc_r fun ww hw hf => ysWrite_c c (.slice v4a c.r.held.length v4c) text ww (Own.sl (hf (ownF w.heap.size (.slice v4a c.r.held.length v4c) 2 (c.r.held.map pceCells)) (by simp))) (by assumption) (by assumption) (by omega) (by omega) w.heap.size hw) ?_
  rintro ⟨⟨v5a,v5c⟩,⟨v6a,v6c⟩⟩
  have hbd7 : (write c text).1.r.held.length ≤ 1048576 ∧ (write c text).2.2.length ≤ 49 := write_bd _ _  (by omega)
  have hbd7a := hbd7.1; have hbd7b := hbd7.2
  refine xl_end [1,2,6,7,8] ⟨[(1,.v (.string text)),(2,.p 0 0),(6,.p 1 0),(7,.v (.int .i64 ((write c text).2.1))),(8,.v (.slice v6a ((write c text).2.2.length) v6c))],[⟨32,conL c (.slice Acrh c.r.held.length Ccrh)⟩,⟨42,conL (write c text).1 (.slice v5a ((write c text).1.r.held.length) v5c)⟩],[],[ownF w.heap.size (.slice v5a ((write c text).1.r.held.length) v5c) 2 ((write c text).1.r.held.map pceCells),ownF w.heap.size (.slice v6a ((write c text).2.2.length) v6c) 13 ((write c text).2.2.map segCells),ownF w.heap.size (.slice v4a c.r.held.length v4c) 2 (c.r.held.map pceCells),slF (.slice Acrh c.r.held.length Ccrh) 2 (c.r.held.map pceCells)]⟩ (by kernel_rfl) ?_
  refine xw_seq ?_
  refine xw_region ?_
  refine xl_callS 1 [1,2,6,7,8,35] [(1,.v (.string text)),(2,.p 0 0),(6,.p 1 0),(7,.v (.int .i64 ((write c text).2.1))),(8,.v (.slice v6a ((write c text).2.2.length) v6c)),(35,.v (.agg (conL c (.slice Acrh c.r.held.length Ccrh)).toArray))] 17 [.agg (conL c (.slice Acrh c.r.held.length Ccrh)).toArray] (some 36) (by kernel_rfl) rfl (by kernel_rfl) rfl (by kernel_rfl) (xc_on (m := c.r.held.length) (F := fun v' => .agg (conL c v').toArray) (List.length_map ..) fun ww hf => toConn_c c.t.ip c.t.port c.t.my c.state c.s.una c.s.data c.s.sent c.s.fin c.s.finSent c.s.done c.r.next c.r.data c.r.held (.slice Acrh c.r.held.length Ccrh) c.r.fin c.r.done c.window c.most c.o.mss c.o.scale c.o.sack c.o.stamp c.o.val c.o.echo c.timer c.tries ww (hf (slF (.slice Acrh c.r.held.length Ccrh) 2 (c.r.held.map pceCells)) (by simp)) (by omega)) ?_
  rintro ⟨v8a,v8c⟩
  refine xl_end [1,2,6,7,8,9] ⟨[(1,.v (.string text)),(2,.p 0 0),(6,.p 1 0),(7,.v (.int .i64 ((write c text).2.1))),(8,.v (.slice v6a ((write c text).2.2.length) v6c)),(9,.p 2 0)],[⟨32,conL c (.slice Acrh c.r.held.length Ccrh)⟩,⟨42,conL (write c text).1 (.slice v5a ((write c text).1.r.held.length) v5c)⟩,⟨42,conL c (.slice v8a c.r.held.length v8c)⟩],[],[ownF w.heap.size (.slice v8a c.r.held.length v8c) 2 (c.r.held.map pceCells),ownF w.heap.size (.slice v5a ((write c text).1.r.held.length) v5c) 2 ((write c text).1.r.held.map pceCells),ownF w.heap.size (.slice v6a ((write c text).2.2.length) v6c) 13 ((write c text).2.2.map segCells),ownF w.heap.size (.slice v4a c.r.held.length v4c) 2 (c.r.held.map pceCells),slF (.slice Acrh c.r.held.length Ccrh) 2 (c.r.held.map pceCells)]⟩ (by kernel_rfl) ?_
  refine xw_seq ?_
  refine xw_region ?_
  refine xl_callS 2 [1,2,6,7,8,9,38,39] [(1,.v (.string text)),(2,.p 0 0),(6,.p 1 0),(7,.v (.int .i64 ((write c text).2.1))),(8,.v (.slice v6a ((write c text).2.2.length) v6c)),(9,.p 2 0),(38,.v (.agg (conL c (.slice v8a c.r.held.length v8c)).toArray)),(39,.v (.string text))] 48 [.agg (conL c (.slice v8a c.r.held.length v8c)).toArray,.string text] (some 40) (by kernel_rfl) rfl (by kernel_rfl) rfl (by kernel_rfl) (xc_r fun ww hw hf => yiWrite_c c (.slice v8a c.r.held.length v8c) text ww (Own.sl (hf (ownF w.heap.size (.slice v8a c.r.held.length v8c) 2 (c.r.held.map pceCells)) (by simp))) (by assumption) (by assumption) (by omega) (by omega) w.heap.size hw) ?_
  rintro ⟨⟨v9a,v9c⟩,⟨v10a,v10c⟩⟩
  have hbd11 : (write c text).1.r.held.length ≤ 1048576 ∧ (write c text).2.2.length ≤ 49 := write_bd _ _  (by omega)
  have hbd11a := hbd11.1; have hbd11b := hbd11.2
  refine xl_end [1,2,6,7,8,9,10,11,12] ⟨[(1,.v (.string text)),(2,.p 0 0),(6,.p 1 0),(7,.v (.int .i64 ((write c text).2.1))),(8,.v (.slice v6a ((write c text).2.2.length) v6c)),(9,.p 2 0),(10,.p 3 0),(11,.v (.int .i64 ((write c text).2.1))),(12,.v (.slice v10a ((write c text).2.2.length) v10c))],[⟨32,conL c (.slice Acrh c.r.held.length Ccrh)⟩,⟨42,conL (write c text).1 (.slice v5a ((write c text).1.r.held.length) v5c)⟩,⟨42,conL c (.slice v8a c.r.held.length v8c)⟩,⟨42,conL (write c text).1 (.slice v9a ((write c text).1.r.held.length) v9c)⟩],[],[ownF w.heap.size (.slice v9a ((write c text).1.r.held.length) v9c) 2 ((write c text).1.r.held.map pceCells),ownF w.heap.size (.slice v10a ((write c text).2.2.length) v10c) 13 ((write c text).2.2.map segCells),ownF w.heap.size (.slice v8a c.r.held.length v8c) 2 (c.r.held.map pceCells),ownF w.heap.size (.slice v5a ((write c text).1.r.held.length) v5c) 2 ((write c text).1.r.held.map pceCells),ownF w.heap.size (.slice v6a ((write c text).2.2.length) v6c) 13 ((write c text).2.2.map segCells),ownF w.heap.size (.slice v4a c.r.held.length v4c) 2 (c.r.held.map pceCells),slF (.slice Acrh c.r.held.length Ccrh) 2 (c.r.held.map pceCells)]⟩ (by kernel_rfl) ?_
  refine xw_seq ?_
  refine xw_seq ?_
  refine xw_region ?_
  refine xl_callS 2 [1,2,6,7,8,9,10,11,12,44,45] [(1,.v (.string text)),(2,.p 0 0),(6,.p 1 0),(7,.v (.int .i64 ((write c text).2.1))),(8,.v (.slice v6a ((write c text).2.2.length) v6c)),(9,.p 2 0),(10,.p 3 0),(11,.v (.int .i64 ((write c text).2.1))),(12,.v (.slice v10a ((write c text).2.2.length) v10c)),(44,.v (.agg (conL (write c text).1 (.slice v9a ((write c text).1.r.held.length) v9c)).toArray)),(45,.v (.agg (conL (write c text).1 (.slice v5a ((write c text).1.r.held.length) v5c)).toArray))] 19 [.agg (conL (write c text).1 (.slice v9a ((write c text).1.r.held.length) v9c)).toArray,.agg (conL (write c text).1 (.slice v5a ((write c text).1.r.held.length) v5c)).toArray] (some 46) (by kernel_rfl) rfl (by kernel_rfl) rfl (by kernel_rfl) (xc_b fun ww hf => eqConn_c ((write c text).1.t.ip) ((write c text).1.t.port) ((write c text).1.t.my) ((write c text).1.state) ((write c text).1.s.una) ((write c text).1.s.data) ((write c text).1.s.sent) ((write c text).1.s.fin) ((write c text).1.s.finSent) ((write c text).1.s.done) ((write c text).1.r.next) ((write c text).1.r.data) ((write c text).1.r.held) (.slice v9a ((write c text).1.r.held.length) v9c) ((write c text).1.r.fin) ((write c text).1.r.done) ((write c text).1.window) ((write c text).1.most) ((write c text).1.o.mss) ((write c text).1.o.scale) ((write c text).1.o.sack) ((write c text).1.o.stamp) ((write c text).1.o.val) ((write c text).1.o.echo) ((write c text).1.timer) ((write c text).1.tries) (.slice v5a ((write c text).1.r.held.length) v5c) ww (Own.sl (hf (ownF w.heap.size (.slice v9a ((write c text).1.r.held.length) v9c) 2 ((write c text).1.r.held.map pceCells)) (by simp))) (Own.sl (hf (ownF w.heap.size (.slice v5a ((write c text).1.r.held.length) v5c) 2 ((write c text).1.r.held.map pceCells)) (by simp)))) ?_
  intro _
  refine xl_runS 7 [1,2,6,7,8,9,10,11,12,53] [(1,.v (.string text)),(2,.p 0 0),(6,.p 1 0),(7,.v (.int .i64 ((write c text).2.1))),(8,.v (.slice v6a ((write c text).2.2.length) v6c)),(9,.p 2 0),(10,.p 3 0),(11,.v (.int .i64 ((write c text).2.1))),(12,.v (.slice v10a ((write c text).2.2.length) v10c)),(53,.v (.bool (((write c text).2.1) != ((write c text).2.1))))] (by kernel_rfl) ?_
  refine xl_split 53 (b := ((write c text).2.1) != ((write c text).2.1)) (by kernel_rfl) (fun h12 => ?_) (fun h12 => ?_)
  simp at h12
  have h12p := neF h12
  refine xl_callS 2 [1,2,6,7,8,9,10,11,12,53,54,55] [(1,.v (.string text)),(2,.p 0 0),(6,.p 1 0),(7,.v (.int .i64 ((write c text).2.1))),(8,.v (.slice v6a ((write c text).2.2.length) v6c)),(9,.p 2 0),(10,.p 3 0),(11,.v (.int .i64 ((write c text).2.1))),(12,.v (.slice v10a ((write c text).2.2.length) v10c)),(53,.v (.bool false)),(54,.v (.slice v10a ((write c text).2.2.length) v10c)),(55,.v (.slice v6a ((write c text).2.2.length) v6c))] 38 [.slice v10a ((write c text).2.2.length) v10c,.slice v6a ((write c text).2.2.length) v6c] (some 56) (by kernel_rfl) rfl (by kernel_rfl) rfl (by kernel_rfl) (xc_b fun ww hf => yeqSegmentS_c ((write c text).2.2) (.slice v10a ((write c text).2.2.length) v10c) (.slice v6a ((write c text).2.2.length) v6c) ww (Own.sl (hf (ownF w.heap.size (.slice v10a ((write c text).2.2.length) v10c) 13 ((write c text).2.2.map segCells)) (by simp))) (Own.sl (hf (ownF w.heap.size (.slice v6a ((write c text).2.2.length) v6c) 13 ((write c text).2.2.map segCells)) (by simp))) ) ?_
  intro _
  refine xl_endS [1,2,6,7,8,9,10,11,12,58] [(1,.v (.string text)),(2,.p 0 0),(6,.p 1 0),(7,.v (.int .i64 ((write c text).2.1))),(8,.v (.slice v6a ((write c text).2.2.length) v6c)),(9,.p 2 0),(10,.p 3 0),(11,.v (.int .i64 ((write c text).2.1))),(12,.v (.slice v10a ((write c text).2.2.length) v10c)),(58,.v (.bool false))] (by kernel_rfl) ?_
  refine xw_false (by kernel_rfl) ?_
  refine xw_skip ?_
  refine xw_seq ?_
  refine xw_seq ?_
  refine xe_region [] (by kernel_rfl) (fun ρ σ => ?_)
  refine xe_tkS [0,1] [60,59,1,2,6,7,8,9,10,11,12] 3 [(60,.v (.agg (conL c (.slice Acrh c.r.held.length Ccrh)).toArray)),(59,.v (.agg (conL c (.slice v8a c.r.held.length v8c)).toArray)),(1,.v (.string text)),(2,.p 0 0),(6,.p 1 0),(7,.v (.int .i64 ((write c text).2.1))),(8,.v (.slice v6a ((write c text).2.2.length) v6c)),(9,.p 2 0),(10,.p 3 0),(11,.v (.int .i64 ((write c text).2.1))),(12,.v (.slice v10a ((write c text).2.2.length) v10c))] (fun _ _ h => h) rfl (by kernel_rfl) ?_
  refine xe_all [2] (by kernel_rfl) (by simp) ?_
  refine xs_call 2 17 [.agg (conL c (.slice Acrh c.r.held.length Ccrh)).toArray] (some 61) rfl (by kernel_rfl) rfl (by kernel_rfl) (xc_on (m := c.r.held.length) (F := fun v' => .agg (conL c v').toArray) (List.length_map ..) fun ww hf => toConn_c c.t.ip c.t.port c.t.my c.state c.s.una c.s.data c.s.sent c.s.fin c.s.finSent c.s.done c.r.next c.r.data c.r.held (.slice Acrh c.r.held.length Ccrh) c.r.fin c.r.done c.window c.most c.o.mss c.o.scale c.o.sack c.o.stamp c.o.val c.o.echo c.timer c.tries ww (hf (slF (.slice Acrh c.r.held.length Ccrh) 2 (c.r.held.map pceCells)) (by simp)) (by omega)) ?_
  rintro ⟨v13a,v13c⟩
  refine xe_all [3] (by kernel_rfl) (by simp) ?_
  refine xs_call 3 19 [.agg (conL c (.slice v8a c.r.held.length v8c)).toArray,.agg (conL c (.slice v13a c.r.held.length v13c)).toArray] (some 62) rfl (by kernel_rfl) rfl (by kernel_rfl) (xc_b fun ww hf => eqConn_c c.t.ip c.t.port c.t.my c.state c.s.una c.s.data c.s.sent c.s.fin c.s.finSent c.s.done c.r.next c.r.data c.r.held (.slice v8a c.r.held.length v8c) c.r.fin c.r.done c.window c.most c.o.mss c.o.scale c.o.sack c.o.stamp c.o.val c.o.echo c.timer c.tries (.slice v13a c.r.held.length v13c) ww (Own.sl (hf (ownF w.heap.size (.slice v8a c.r.held.length v8c) 2 (c.r.held.map pceCells)) (by simp))) (Own.sl (hf (ownF w.heap.size (.slice v13a c.r.held.length v13c) 2 (c.r.held.map pceCells)) (by simp)))) ?_
  intro _
  refine xe_tkS [4] [63,1,2,6,7,8,9,10,11,12] 0 [(63,.v (.bool false)),(1,.v (.string text)),(2,.p 0 0),(6,.p 1 0),(7,.v (.int .i64 ((write c text).2.1))),(8,.v (.slice v6a ((write c text).2.2.length) v6c)),(9,.p 2 0),(10,.p 3 0),(11,.v (.int .i64 ((write c text).2.1))),(12,.v (.slice v10a ((write c text).2.2.length) v10c))] (fun _ _ h => h) rfl (by kernel_rfl) ?_
  refine xe_done (by kernel_rfl) ?_
  refine xw_false (by kernel_rfl) ?_
  refine xw_skip ?_
  refine xw_seq ?_
  refine xw_region ?_
  refine xl_endS [1,2,6,7,8,9,10,11,12,13] [(1,.v (.string text)),(2,.p 0 0),(6,.p 1 0),(7,.v (.int .i64 ((write c text).2.1))),(8,.v (.slice v6a ((write c text).2.2.length) v6c)),(9,.p 2 0),(10,.p 3 0),(11,.v (.int .i64 ((write c text).2.1))),(12,.v (.slice v10a ((write c text).2.2.length) v10c)),(13,.v (.int .i64 1))] (by kernel_rfl) ?_
  refine xw_seq ?_
  refine xw_region ?_
  refine xl_callWS 2 [1,2,6,7,8,10,11,12,13,64,65] [(1,.v (.string text)),(2,.p 0 0),(6,.p 1 0),(7,.v (.int .i64 ((write c text).2.1))),(8,.v (.slice v6a ((write c text).2.2.length) v6c)),(10,.p 3 0),(11,.v (.int .i64 ((write c text).2.1))),(12,.v (.slice v10a ((write c text).2.2.length) v10c)),(13,.v (.int .i64 1)),(64,.v (.agg (conL c (.slice v8a c.r.held.length v8c)).toArray)),(65,.v (.int .i64 1))] 34 [.agg (conL c (.slice v8a c.r.held.length v8c)).toArray,.int .i64 1] (some 66) 3 (ownF w.heap.size (.slice v8a c.r.held.length v8c) 2 (c.r.held.map pceCells)) (by kernel_rfl) rfl (by kernel_rfl) rfl (by kernel_rfl) rfl rfl (fun ww b h hb => vblk_lo h hb) (by kernel_rfl) (xcm_own marks_ne fun ww hw hf => ymarkConn_c c (.slice v8a c.r.held.length v8c) 1 ww w.heap.size hw (hf (ownF w.heap.size (.slice v8a c.r.held.length v8c) 2 (c.r.held.map pceCells)) (by simp)) (by omega) (by omega) (by omega)) ?_
  intro _
  refine xl_endS [1,2,6,7,8,10,11,12,13] [(1,.v (.string text)),(2,.p 0 0),(6,.p 1 0),(7,.v (.int .i64 ((write c text).2.1))),(8,.v (.slice v6a ((write c text).2.2.length) v6c)),(10,.p 3 0),(11,.v (.int .i64 ((write c text).2.1))),(12,.v (.slice v10a ((write c text).2.2.length) v10c)),(13,.v (.int .i64 (1 + 2 * (c.r.held.length : Int))))] (by kernel_rfl) ?_
  refine xw_seq ?_
  refine xw_seq ?_
  refine xw_region ?_
  refine xl_runS 3 [1,2,6,7,8,10,11,12,69] [(1,.v (.string text)),(2,.p 0 0),(6,.p 1 0),(7,.v (.int .i64 ((write c text).2.1))),(8,.v (.slice v6a ((write c text).2.2.length) v6c)),(10,.p 3 0),(11,.v (.int .i64 ((write c text).2.1))),(12,.v (.slice v10a ((write c text).2.2.length) v10c)),(69,.v (.bool (decide ((1 + 2 * (c.r.held.length : Int)) < 0))))] (by kernel_rfl) ?_
  refine xl_split 69 (b := decide ((1 + 2 * (c.r.held.length : Int)) < 0)) (by kernel_rfl) (fun h14 => ?_) (fun h14 => ?_)
  have h14p : ((1 + 2 * (c.r.held.length : Int)) < 0) := of_decide_eq_true h14
  exfalso; have := of_decide_eq_true h14; omega
  have h14p : ¬ ((1 + 2 * (c.r.held.length : Int)) < 0) := of_decide_eq_false h14
  refine xl_callS 2 [1,2,6,7,8,10,11,12,69,70,71] [(1,.v (.string text)),(2,.p 0 0),(6,.p 1 0),(7,.v (.int .i64 ((write c text).2.1))),(8,.v (.slice v6a ((write c text).2.2.length) v6c)),(10,.p 3 0),(11,.v (.int .i64 ((write c text).2.1))),(12,.v (.slice v10a ((write c text).2.2.length) v10c)),(69,.v (.bool false)),(70,.v (.agg (conL (write c text).1 (.slice v9a ((write c text).1.r.held.length) v9c)).toArray)),(71,.v (.agg (conL (write c text).1 (.slice v5a ((write c text).1.r.held.length) v5c)).toArray))] 19 [.agg (conL (write c text).1 (.slice v9a ((write c text).1.r.held.length) v9c)).toArray,.agg (conL (write c text).1 (.slice v5a ((write c text).1.r.held.length) v5c)).toArray] (some 72) (by kernel_rfl) rfl (by kernel_rfl) rfl (by kernel_rfl) (xc_b fun ww hf => eqConn_c ((write c text).1.t.ip) ((write c text).1.t.port) ((write c text).1.t.my) ((write c text).1.state) ((write c text).1.s.una) ((write c text).1.s.data) ((write c text).1.s.sent) ((write c text).1.s.fin) ((write c text).1.s.finSent) ((write c text).1.s.done) ((write c text).1.r.next) ((write c text).1.r.data) ((write c text).1.r.held) (.slice v9a ((write c text).1.r.held.length) v9c) ((write c text).1.r.fin) ((write c text).1.r.done) ((write c text).1.window) ((write c text).1.most) ((write c text).1.o.mss) ((write c text).1.o.scale) ((write c text).1.o.sack) ((write c text).1.o.stamp) ((write c text).1.o.val) ((write c text).1.o.echo) ((write c text).1.timer) ((write c text).1.tries) (.slice v5a ((write c text).1.r.held.length) v5c) ww (Own.sl (hf (ownF w.heap.size (.slice v9a ((write c text).1.r.held.length) v9c) 2 ((write c text).1.r.held.map pceCells)) (by simp))) (Own.sl (hf (ownF w.heap.size (.slice v5a ((write c text).1.r.held.length) v5c) 2 ((write c text).1.r.held.map pceCells)) (by simp)))) ?_
  intro _
  refine xl_runS 8 [1,2,6,7,8,10,12,80] [(1,.v (.string text)),(2,.p 0 0),(6,.p 1 0),(7,.v (.int .i64 ((write c text).2.1))),(8,.v (.slice v6a ((write c text).2.2.length) v6c)),(10,.p 3 0),(12,.v (.slice v10a ((write c text).2.2.length) v10c)),(80,.v (.bool (((write c text).2.1) != ((write c text).2.1))))] (by kernel_rfl) ?_
  refine xl_split 80 (b := ((write c text).2.1) != ((write c text).2.1)) (by kernel_rfl) (fun h15 => ?_) (fun h15 => ?_)
  simp at h15
  have h15p := neF h15
  refine xl_callS 2 [1,2,6,7,8,10,12,80,81,82] [(1,.v (.string text)),(2,.p 0 0),(6,.p 1 0),(7,.v (.int .i64 ((write c text).2.1))),(8,.v (.slice v6a ((write c text).2.2.length) v6c)),(10,.p 3 0),(12,.v (.slice v10a ((write c text).2.2.length) v10c)),(80,.v (.bool false)),(81,.v (.slice v10a ((write c text).2.2.length) v10c)),(82,.v (.slice v6a ((write c text).2.2.length) v6c))] 38 [.slice v10a ((write c text).2.2.length) v10c,.slice v6a ((write c text).2.2.length) v6c] (some 83) (by kernel_rfl) rfl (by kernel_rfl) rfl (by kernel_rfl) (xc_b fun ww hf => yeqSegmentS_c ((write c text).2.2) (.slice v10a ((write c text).2.2.length) v10c) (.slice v6a ((write c text).2.2.length) v6c) ww (Own.sl (hf (ownF w.heap.size (.slice v10a ((write c text).2.2.length) v10c) 13 ((write c text).2.2.map segCells)) (by simp))) (Own.sl (hf (ownF w.heap.size (.slice v6a ((write c text).2.2.length) v6c) 13 ((write c text).2.2.map segCells)) (by simp))) ) ?_
  intro _
  refine xl_endS [1,2,6,7,8,10,12,85] [(1,.v (.string text)),(2,.p 0 0),(6,.p 1 0),(7,.v (.int .i64 ((write c text).2.1))),(8,.v (.slice v6a ((write c text).2.2.length) v6c)),(10,.p 3 0),(12,.v (.slice v10a ((write c text).2.2.length) v10c)),(85,.v (.bool false))] (by kernel_rfl) ?_
  refine xw_false (by kernel_rfl) ?_
  refine xw_skip ?_
  refine xw_seq ?_
  refine xw_region ?_
  refine xl_endS [1,2,6,7,8,10,12,14] [(1,.v (.string text)),(2,.p 0 0),(6,.p 1 0),(7,.v (.int .i64 ((write c text).2.1))),(8,.v (.slice v6a ((write c text).2.2.length) v6c)),(10,.p 3 0),(12,.v (.slice v10a ((write c text).2.2.length) v10c)),(14,.v (.int .i64 1))] (by kernel_rfl) ?_
  refine xw_seq ?_
  refine xw_region ?_
  refine xl_callWS 2 [1,2,6,7,8,10,12,14,86,87] [(1,.v (.string text)),(2,.p 0 0),(6,.p 1 0),(7,.v (.int .i64 ((write c text).2.1))),(8,.v (.slice v6a ((write c text).2.2.length) v6c)),(10,.p 3 0),(12,.v (.slice v10a ((write c text).2.2.length) v10c)),(14,.v (.int .i64 1)),(86,.v (.agg (conL (write c text).1 (.slice v9a ((write c text).1.r.held.length) v9c)).toArray)),(87,.v (.int .i64 1))] 34 [.agg (conL (write c text).1 (.slice v9a ((write c text).1.r.held.length) v9c)).toArray,.int .i64 1] (some 88) 2 (ownF w.heap.size (.slice v9a ((write c text).1.r.held.length) v9c) 2 ((write c text).1.r.held.map pceCells)) (by kernel_rfl) rfl (by kernel_rfl) rfl (by kernel_rfl) rfl rfl (fun ww b h hb => vblk_lo h hb) (by kernel_rfl) (xcm_own marks_ne fun ww hw hf => ymarkConn_c ((write c text).1) (.slice v9a ((write c text).1.r.held.length) v9c) 1 ww w.heap.size hw (hf (ownF w.heap.size (.slice v9a ((write c text).1.r.held.length) v9c) 2 ((write c text).1.r.held.map pceCells)) (by simp)) (by omega) (by omega) (by omega)) ?_
  intro _
  refine xl_endS [1,2,6,7,8,10,12,14] [(1,.v (.string text)),(2,.p 0 0),(6,.p 1 0),(7,.v (.int .i64 ((write c text).2.1))),(8,.v (.slice v6a ((write c text).2.2.length) v6c)),(10,.p 3 0),(12,.v (.slice v10a ((write c text).2.2.length) v10c)),(14,.v (.int .i64 (1 + 2 * (((write c text).1.r.held).length : Int))))] (by kernel_rfl) ?_
  refine xw_seq ?_
  refine xw_region ?_
  refine xl_callWS 2 [1,2,6,7,8,10,12,14,89,90] [(1,.v (.string text)),(2,.p 0 0),(6,.p 1 0),(7,.v (.int .i64 ((write c text).2.1))),(8,.v (.slice v6a ((write c text).2.2.length) v6c)),(10,.p 3 0),(12,.v (.slice v10a ((write c text).2.2.length) v10c)),(14,.v (.int .i64 (1 + 2 * (((write c text).1.r.held).length : Int)))),(89,.v (.slice v10a ((write c text).2.2.length) v10c)),(90,.v (.int .i64 (1 + 2 * (((write c text).1.r.held).length : Int))))] 39 [.slice v10a ((write c text).2.2.length) v10c,.int .i64 (1 + 2 * (((write c text).1.r.held).length : Int))] (some 91) 3 (ownF w.heap.size (.slice v10a ((write c text).2.2.length) v10c) 13 ((write c text).2.2.map segCells)) (by kernel_rfl) rfl (by kernel_rfl) rfl (by kernel_rfl) rfl rfl (fun ww b h hb => vblk_lo h hb) (by kernel_rfl) (xcm_own marks_ne fun ww hw hf => ymarkSegmentS_c (.slice v10a ((write c text).2.2.length) v10c) ((write c text).2.2) (1 + 2 * (((write c text).1.r.held).length : Int)) ww w.heap.size hw (hf (ownF w.heap.size (.slice v10a ((write c text).2.2.length) v10c) 13 ((write c text).2.2.map segCells)) (by simp)) (by omega) (by omega) (by omega)) ?_
  intro _
  refine xl_endS [1,2,6,7,8,10,12,14] [(1,.v (.string text)),(2,.p 0 0),(6,.p 1 0),(7,.v (.int .i64 ((write c text).2.1))),(8,.v (.slice v6a ((write c text).2.2.length) v6c)),(10,.p 3 0),(12,.v (.slice v10a ((write c text).2.2.length) v10c)),(14,.v (.int .i64 ((1 + 2 * (((write c text).1.r.held).length : Int)) + 13 * (((write c text).2.2).length : Int))))] (by kernel_rfl) ?_
  refine xw_seq ?_
  refine xw_region ?_
  refine xl_endS [1,2,6,7,8,10,12,14,15] [(1,.v (.string text)),(2,.p 0 0),(6,.p 1 0),(7,.v (.int .i64 ((write c text).2.1))),(8,.v (.slice v6a ((write c text).2.2.length) v6c)),(10,.p 3 0),(12,.v (.slice v10a ((write c text).2.2.length) v10c)),(14,.v (.int .i64 ((1 + 2 * (((write c text).1.r.held).length : Int)) + 13 * (((write c text).2.2).length : Int)))),(15,.v (.int .i64 1))] (by kernel_rfl) ?_
  refine xw_seq ?_
  refine xw_region ?_
  refine xl_callS 2 [1,2,6,7,8,10,12,14,15,92,93] [(1,.v (.string text)),(2,.p 0 0),(6,.p 1 0),(7,.v (.int .i64 ((write c text).2.1))),(8,.v (.slice v6a ((write c text).2.2.length) v6c)),(10,.p 3 0),(12,.v (.slice v10a ((write c text).2.2.length) v10c)),(14,.v (.int .i64 ((1 + 2 * (((write c text).1.r.held).length : Int)) + 13 * (((write c text).2.2).length : Int)))),(15,.v (.int .i64 1)),(92,.v (.agg (conL { (write c text).1 with r := { (write c text).1.r with held := (marks mkP 2 1 ((write c text).1.r.held).length) } } (.slice v9a ((write c text).1.r.held.length) v9c)).toArray)),(93,.v (.int .i64 1))] 35 [.agg (conL { (write c text).1 with r := { (write c text).1.r with held := (marks mkP 2 1 ((write c text).1.r.held).length) } } (.slice v9a ((write c text).1.r.held.length) v9c)).toArray,.int .i64 1] (some 94) (by kernel_rfl) rfl (by kernel_rfl) rfl (by kernel_rfl) (xc_b fun ww hf => yheldConn_m ((write c text).1.r.held).length ((write c text).1.t.ip) ((write c text).1.t.port) ((write c text).1.t.my) ((write c text).1.state) ((write c text).1.s.una) ((write c text).1.s.data) ((write c text).1.s.sent) ((write c text).1.s.fin) ((write c text).1.s.finSent) ((write c text).1.s.done) ((write c text).1.r.next) ((write c text).1.r.data) ((write c text).1.r.fin) ((write c text).1.r.done) ((write c text).1.window) ((write c text).1.most) ((write c text).1.o.mss) ((write c text).1.o.scale) ((write c text).1.o.sack) ((write c text).1.o.stamp) ((write c text).1.o.val) ((write c text).1.o.echo) ((write c text).1.timer) ((write c text).1.tries) (.slice v9a ((write c text).1.r.held.length) v9c) 1 ww (Own.sl (hf (ownF w.heap.size (.slice v9a ((write c text).1.r.held.length) v9c) 2 ((marks mkP 2 1 ((write c text).1.r.held).length).map pceCells)) (by simp))) (by omega) (by omega) (by omega)) ?_
  intro _
  refine xl_endS [1,2,6,7,8,10,12,14,15] [(1,.v (.string text)),(2,.p 0 0),(6,.p 1 0),(7,.v (.int .i64 ((write c text).2.1))),(8,.v (.slice v6a ((write c text).2.2.length) v6c)),(10,.p 3 0),(12,.v (.slice v10a ((write c text).2.2.length) v10c)),(14,.v (.int .i64 ((1 + 2 * (((write c text).1.r.held).length : Int)) + 13 * (((write c text).2.2).length : Int)))),(15,.v (.int .i64 (1 + 2 * (((write c text).1.r.held).length : Int))))] (by kernel_rfl) ?_
  refine xw_seq ?_
  refine xw_seq ?_
  refine xw_region ?_
  refine xl_endS [1,2,6,7,8,10,12,14,15,96] [(1,.v (.string text)),(2,.p 0 0),(6,.p 1 0),(7,.v (.int .i64 ((write c text).2.1))),(8,.v (.slice v6a ((write c text).2.2.length) v6c)),(10,.p 3 0),(12,.v (.slice v10a ((write c text).2.2.length) v10c)),(14,.v (.int .i64 ((1 + 2 * (((write c text).1.r.held).length : Int)) + 13 * (((write c text).2.2).length : Int)))),(15,.v (.int .i64 (1 + 2 * (((write c text).1.r.held).length : Int)))),(96,.v (.bool (decide ((1 + 2 * (((write c text).1.r.held).length : Int)) < 0))))] (by kernel_rfl) ?_
  refine xw_cond (b := decide ((1 + 2 * (((write c text).1.r.held).length : Int)) < 0)) (by kernel_rfl) (fun h16 => ?_) (fun h16 => ?_)
  have h16p : ((1 + 2 * (((write c text).1.r.held).length : Int)) < 0) := of_decide_eq_true h16
  exfalso; have := of_decide_eq_true h16; omega
  have h16p : ¬ ((1 + 2 * (((write c text).1.r.held).length : Int)) < 0) := of_decide_eq_false h16
  refine xw_skip ?_
  refine xw_seq ?_
  refine xw_region ?_
  refine xl_callS 2 [1,2,6,7,8,10,12,14,15,97,98] [(1,.v (.string text)),(2,.p 0 0),(6,.p 1 0),(7,.v (.int .i64 ((write c text).2.1))),(8,.v (.slice v6a ((write c text).2.2.length) v6c)),(10,.p 3 0),(12,.v (.slice v10a ((write c text).2.2.length) v10c)),(14,.v (.int .i64 ((1 + 2 * (((write c text).1.r.held).length : Int)) + 13 * (((write c text).2.2).length : Int)))),(15,.v (.int .i64 (1 + 2 * (((write c text).1.r.held).length : Int)))),(97,.v (.slice v10a ((write c text).2.2.length) v10c)),(98,.v (.int .i64 (1 + 2 * (((write c text).1.r.held).length : Int))))] 40 [.slice v10a ((write c text).2.2.length) v10c,.int .i64 (1 + 2 * (((write c text).1.r.held).length : Int))] (some 99) (by kernel_rfl) rfl (by kernel_rfl) rfl (by kernel_rfl) (xc_b fun ww hf => yheldSegmentS_m ((write c text).2.2).length  (.slice v10a ((write c text).2.2.length) v10c) (1 + 2 * (((write c text).1.r.held).length : Int)) ww (Own.sl (hf (ownF w.heap.size (.slice v10a ((write c text).2.2.length) v10c) 13 ((marks mkS 13 (1 + 2 * (((write c text).1.r.held).length : Int)) ((write c text).2.2).length).map segCells)) (by simp))) (by omega) (by omega) (by omega)) ?_
  intro _
  refine xl_endS [1,2,6,7,8,10,12,14,15] [(1,.v (.string text)),(2,.p 0 0),(6,.p 1 0),(7,.v (.int .i64 ((write c text).2.1))),(8,.v (.slice v6a ((write c text).2.2.length) v6c)),(10,.p 3 0),(12,.v (.slice v10a ((write c text).2.2.length) v10c)),(14,.v (.int .i64 ((1 + 2 * (((write c text).1.r.held).length : Int)) + 13 * (((write c text).2.2).length : Int)))),(15,.v (.int .i64 ((1 + 2 * (((write c text).1.r.held).length : Int)) + 13 * (((write c text).2.2).length : Int))))] (by kernel_rfl) ?_
  refine xw_seq ?_
  refine xw_seq ?_
  refine xw_region ?_
  refine xl_endS [1,2,6,7,8,10,12,14,15,101] [(1,.v (.string text)),(2,.p 0 0),(6,.p 1 0),(7,.v (.int .i64 ((write c text).2.1))),(8,.v (.slice v6a ((write c text).2.2.length) v6c)),(10,.p 3 0),(12,.v (.slice v10a ((write c text).2.2.length) v10c)),(14,.v (.int .i64 ((1 + 2 * (((write c text).1.r.held).length : Int)) + 13 * (((write c text).2.2).length : Int)))),(15,.v (.int .i64 ((1 + 2 * (((write c text).1.r.held).length : Int)) + 13 * (((write c text).2.2).length : Int)))),(101,.v (.bool (decide (((1 + 2 * (((write c text).1.r.held).length : Int)) + 13 * (((write c text).2.2).length : Int)) < 0))))] (by kernel_rfl) ?_
  refine xw_cond (b := decide (((1 + 2 * (((write c text).1.r.held).length : Int)) + 13 * (((write c text).2.2).length : Int)) < 0)) (by kernel_rfl) (fun h17 => ?_) (fun h17 => ?_)
  have h17p : (((1 + 2 * (((write c text).1.r.held).length : Int)) + 13 * (((write c text).2.2).length : Int)) < 0) := of_decide_eq_true h17
  exfalso; have := of_decide_eq_true h17; omega
  have h17p : ¬ (((1 + 2 * (((write c text).1.r.held).length : Int)) + 13 * (((write c text).2.2).length : Int)) < 0) := of_decide_eq_false h17
  refine xw_skip ?_
  refine xw_seq ?_
  refine xw_seq ?_
  refine xw_region ?_
  refine xl_endS [1,2,6,7,8,10,12,14,104] [(1,.v (.string text)),(2,.p 0 0),(6,.p 1 0),(7,.v (.int .i64 ((write c text).2.1))),(8,.v (.slice v6a ((write c text).2.2.length) v6c)),(10,.p 3 0),(12,.v (.slice v10a ((write c text).2.2.length) v10c)),(14,.v (.int .i64 ((1 + 2 * (((write c text).1.r.held).length : Int)) + 13 * (((write c text).2.2).length : Int)))),(104,.v (.bool (((1 + 2 * (((write c text).1.r.held).length : Int)) + 13 * (((write c text).2.2).length : Int)) != ((1 + 2 * (((write c text).1.r.held).length : Int)) + 13 * (((write c text).2.2).length : Int)))))] (by kernel_rfl) ?_
  refine xw_cond (b := ((1 + 2 * (((write c text).1.r.held).length : Int)) + 13 * (((write c text).2.2).length : Int)) != ((1 + 2 * (((write c text).1.r.held).length : Int)) + 13 * (((write c text).2.2).length : Int))) (by kernel_rfl) (fun h18 => ?_) (fun h18 => ?_)
  simp at h18
  have h18p := neF h18
  refine xw_skip ?_
  refine xw_seq ?_
  refine xw_region ?_
  refine xl_callS 1 [1,6,7,8,10,12,14,106] [(1,.v (.string text)),(6,.p 1 0),(7,.v (.int .i64 ((write c text).2.1))),(8,.v (.slice v6a ((write c text).2.2.length) v6c)),(10,.p 3 0),(12,.v (.slice v10a ((write c text).2.2.length) v10c)),(14,.v (.int .i64 ((1 + 2 * (((write c text).1.r.held).length : Int)) + 13 * (((write c text).2.2).length : Int)))),(106,.v (.agg (conL c (.slice Acrh c.r.held.length Ccrh)).toArray))] 17 [.agg (conL c (.slice Acrh c.r.held.length Ccrh)).toArray] (some 107) (by kernel_rfl) rfl (by kernel_rfl) rfl (by kernel_rfl) (xc_on (m := c.r.held.length) (F := fun v' => .agg (conL c v').toArray) (List.length_map ..) fun ww hf => toConn_c c.t.ip c.t.port c.t.my c.state c.s.una c.s.data c.s.sent c.s.fin c.s.finSent c.s.done c.r.next c.r.data c.r.held (.slice Acrh c.r.held.length Ccrh) c.r.fin c.r.done c.window c.most c.o.mss c.o.scale c.o.sack c.o.stamp c.o.val c.o.echo c.timer c.tries ww (hf (slF (.slice Acrh c.r.held.length Ccrh) 2 (c.r.held.map pceCells)) (by simp)) (by omega)) ?_
  rintro ⟨v19a,v19c⟩
  refine xl_callS 1 [6,7,8,10,12,14,107,108] [(6,.p 1 0),(7,.v (.int .i64 ((write c text).2.1))),(8,.v (.slice v6a ((write c text).2.2.length) v6c)),(10,.p 3 0),(12,.v (.slice v10a ((write c text).2.2.length) v10c)),(14,.v (.int .i64 ((1 + 2 * (((write c text).1.r.held).length : Int)) + 13 * (((write c text).2.2).length : Int)))),(107,.v (.agg (conL c (.slice v19a c.r.held.length v19c)).toArray)),(108,.v (.string text))] 48 [.agg (conL c (.slice v19a c.r.held.length v19c)).toArray,.string text] (some 109) (by kernel_rfl) rfl (by kernel_rfl) rfl (by kernel_rfl) (xc_r fun ww hw hf => yiWrite_c c (.slice v19a c.r.held.length v19c) text ww (Own.sl (hf (ownF w.heap.size (.slice v19a c.r.held.length v19c) 2 (c.r.held.map pceCells)) (by simp))) (by assumption) (by assumption) (by omega) (by omega) w.heap.size hw) ?_
  rintro ⟨⟨v20a,v20c⟩,⟨v21a,v21c⟩⟩
  have hbd22 : (write c text).1.r.held.length ≤ 1048576 ∧ (write c text).2.2.length ≤ 49 := write_bd _ _  (by omega)
  have hbd22a := hbd22.1; have hbd22b := hbd22.2
  refine xl_end [6,7,8,10,12,14,16,17,18] ⟨[(6,.p 1 0),(7,.v (.int .i64 ((write c text).2.1))),(8,.v (.slice v6a ((write c text).2.2.length) v6c)),(10,.p 3 0),(12,.v (.slice v10a ((write c text).2.2.length) v10c)),(14,.v (.int .i64 ((1 + 2 * (((write c text).1.r.held).length : Int)) + 13 * (((write c text).2.2).length : Int)))),(16,.p 4 0),(17,.v (.int .i64 ((write c text).2.1))),(18,.v (.slice v21a ((write c text).2.2.length) v21c))],[⟨32,conL c (.slice Acrh c.r.held.length Ccrh)⟩,⟨42,conL (write c text).1 (.slice v5a ((write c text).1.r.held.length) v5c)⟩,⟨42,conL { c with r := { c.r with held := (marks mkP 2 1 c.r.held.length) } } (.slice v8a c.r.held.length v8c)⟩,⟨42,conL { (write c text).1 with r := { (write c text).1.r with held := (marks mkP 2 1 ((write c text).1.r.held).length) } } (.slice v9a ((write c text).1.r.held.length) v9c)⟩,⟨42,conL (write c text).1 (.slice v20a ((write c text).1.r.held.length) v20c)⟩],[],[ownF w.heap.size (.slice v20a ((write c text).1.r.held.length) v20c) 2 ((write c text).1.r.held.map pceCells),ownF w.heap.size (.slice v21a ((write c text).2.2.length) v21c) 13 ((write c text).2.2.map segCells),ownF w.heap.size (.slice v19a c.r.held.length v19c) 2 (c.r.held.map pceCells),ownF w.heap.size (.slice v10a ((write c text).2.2.length) v10c) 13 ((marks mkS 13 (1 + 2 * (((write c text).1.r.held).length : Int)) ((write c text).2.2).length).map segCells),ownF w.heap.size (.slice v9a ((write c text).1.r.held.length) v9c) 2 ((marks mkP 2 1 ((write c text).1.r.held).length).map pceCells),ownF w.heap.size (.slice v8a c.r.held.length v8c) 2 ((marks mkP 2 1 c.r.held.length).map pceCells),ownF w.heap.size (.slice v13a c.r.held.length v13c) 2 (c.r.held.map pceCells),ownF w.heap.size (.slice v5a ((write c text).1.r.held.length) v5c) 2 ((write c text).1.r.held.map pceCells),ownF w.heap.size (.slice v6a ((write c text).2.2.length) v6c) 13 ((write c text).2.2.map segCells),ownF w.heap.size (.slice v4a c.r.held.length v4c) 2 (c.r.held.map pceCells),slF (.slice Acrh c.r.held.length Ccrh) 2 (c.r.held.map pceCells)]⟩ (by kernel_rfl) ?_
  refine xw_seq ?_
  refine xw_seq ?_
  refine xw_region ?_
  refine xl_callS 2 [7,8,10,12,14,17,18,113,114] [(7,.v (.int .i64 ((write c text).2.1))),(8,.v (.slice v6a ((write c text).2.2.length) v6c)),(10,.p 3 0),(12,.v (.slice v10a ((write c text).2.2.length) v10c)),(14,.v (.int .i64 ((1 + 2 * (((write c text).1.r.held).length : Int)) + 13 * (((write c text).2.2).length : Int)))),(17,.v (.int .i64 ((write c text).2.1))),(18,.v (.slice v21a ((write c text).2.2.length) v21c)),(113,.v (.agg (conL (write c text).1 (.slice v20a ((write c text).1.r.held.length) v20c)).toArray)),(114,.v (.agg (conL (write c text).1 (.slice v5a ((write c text).1.r.held.length) v5c)).toArray))] 19 [.agg (conL (write c text).1 (.slice v20a ((write c text).1.r.held.length) v20c)).toArray,.agg (conL (write c text).1 (.slice v5a ((write c text).1.r.held.length) v5c)).toArray] (some 115) (by kernel_rfl) rfl (by kernel_rfl) rfl (by kernel_rfl) (xc_b fun ww hf => eqConn_c ((write c text).1.t.ip) ((write c text).1.t.port) ((write c text).1.t.my) ((write c text).1.state) ((write c text).1.s.una) ((write c text).1.s.data) ((write c text).1.s.sent) ((write c text).1.s.fin) ((write c text).1.s.finSent) ((write c text).1.s.done) ((write c text).1.r.next) ((write c text).1.r.data) ((write c text).1.r.held) (.slice v20a ((write c text).1.r.held.length) v20c) ((write c text).1.r.fin) ((write c text).1.r.done) ((write c text).1.window) ((write c text).1.most) ((write c text).1.o.mss) ((write c text).1.o.scale) ((write c text).1.o.sack) ((write c text).1.o.stamp) ((write c text).1.o.val) ((write c text).1.o.echo) ((write c text).1.timer) ((write c text).1.tries) (.slice v5a ((write c text).1.r.held.length) v5c) ww (Own.sl (hf (ownF w.heap.size (.slice v20a ((write c text).1.r.held.length) v20c) 2 ((write c text).1.r.held.map pceCells)) (by simp))) (Own.sl (hf (ownF w.heap.size (.slice v5a ((write c text).1.r.held.length) v5c) 2 ((write c text).1.r.held.map pceCells)) (by simp)))) ?_
  intro _
  refine xl_runS 7 [8,10,12,14,18,122] [(8,.v (.slice v6a ((write c text).2.2.length) v6c)),(10,.p 3 0),(12,.v (.slice v10a ((write c text).2.2.length) v10c)),(14,.v (.int .i64 ((1 + 2 * (((write c text).1.r.held).length : Int)) + 13 * (((write c text).2.2).length : Int)))),(18,.v (.slice v21a ((write c text).2.2.length) v21c)),(122,.v (.bool (((write c text).2.1) != ((write c text).2.1))))] (by kernel_rfl) ?_
  refine xl_split 122 (b := ((write c text).2.1) != ((write c text).2.1)) (by kernel_rfl) (fun h23 => ?_) (fun h23 => ?_)
  simp at h23
  have h23p := neF h23
  refine xl_callS 2 [10,12,14,122,123,124] [(10,.p 3 0),(12,.v (.slice v10a ((write c text).2.2.length) v10c)),(14,.v (.int .i64 ((1 + 2 * (((write c text).1.r.held).length : Int)) + 13 * (((write c text).2.2).length : Int)))),(122,.v (.bool false)),(123,.v (.slice v21a ((write c text).2.2.length) v21c)),(124,.v (.slice v6a ((write c text).2.2.length) v6c))] 38 [.slice v21a ((write c text).2.2.length) v21c,.slice v6a ((write c text).2.2.length) v6c] (some 125) (by kernel_rfl) rfl (by kernel_rfl) rfl (by kernel_rfl) (xc_b fun ww hf => yeqSegmentS_c ((write c text).2.2) (.slice v21a ((write c text).2.2.length) v21c) (.slice v6a ((write c text).2.2.length) v6c) ww (Own.sl (hf (ownF w.heap.size (.slice v21a ((write c text).2.2.length) v21c) 13 ((write c text).2.2.map segCells)) (by simp))) (Own.sl (hf (ownF w.heap.size (.slice v6a ((write c text).2.2.length) v6c) 13 ((write c text).2.2.map segCells)) (by simp))) ) ?_
  intro _
  refine xl_endS [10,12,14,127] [(10,.p 3 0),(12,.v (.slice v10a ((write c text).2.2.length) v10c)),(14,.v (.int .i64 ((1 + 2 * (((write c text).1.r.held).length : Int)) + 13 * (((write c text).2.2).length : Int)))),(127,.v (.bool false))] (by kernel_rfl) ?_
  refine xw_false (by kernel_rfl) ?_
  refine xw_skip ?_
  refine xw_seq ?_
  refine xw_region ?_
  refine xl_endS [10,12,14,15] [(10,.p 3 0),(12,.v (.slice v10a ((write c text).2.2.length) v10c)),(14,.v (.int .i64 ((1 + 2 * (((write c text).1.r.held).length : Int)) + 13 * (((write c text).2.2).length : Int)))),(15,.v (.int .i64 1))] (by kernel_rfl) ?_
  refine xw_seq ?_
  refine xw_region ?_
  refine xl_callS 2 [12,14,15,128,129] [(12,.v (.slice v10a ((write c text).2.2.length) v10c)),(14,.v (.int .i64 ((1 + 2 * (((write c text).1.r.held).length : Int)) + 13 * (((write c text).2.2).length : Int)))),(15,.v (.int .i64 1)),(128,.v (.agg (conL { (write c text).1 with r := { (write c text).1.r with held := (marks mkP 2 1 ((write c text).1.r.held).length) } } (.slice v9a ((write c text).1.r.held.length) v9c)).toArray)),(129,.v (.int .i64 1))] 35 [.agg (conL { (write c text).1 with r := { (write c text).1.r with held := (marks mkP 2 1 ((write c text).1.r.held).length) } } (.slice v9a ((write c text).1.r.held.length) v9c)).toArray,.int .i64 1] (some 130) (by kernel_rfl) rfl (by kernel_rfl) rfl (by kernel_rfl) (xc_b fun ww hf => yheldConn_m ((write c text).1.r.held).length ((write c text).1.t.ip) ((write c text).1.t.port) ((write c text).1.t.my) ((write c text).1.state) ((write c text).1.s.una) ((write c text).1.s.data) ((write c text).1.s.sent) ((write c text).1.s.fin) ((write c text).1.s.finSent) ((write c text).1.s.done) ((write c text).1.r.next) ((write c text).1.r.data) ((write c text).1.r.fin) ((write c text).1.r.done) ((write c text).1.window) ((write c text).1.most) ((write c text).1.o.mss) ((write c text).1.o.scale) ((write c text).1.o.sack) ((write c text).1.o.stamp) ((write c text).1.o.val) ((write c text).1.o.echo) ((write c text).1.timer) ((write c text).1.tries) (.slice v9a ((write c text).1.r.held.length) v9c) 1 ww (Own.sl (hf (ownF w.heap.size (.slice v9a ((write c text).1.r.held.length) v9c) 2 ((marks mkP 2 1 ((write c text).1.r.held).length).map pceCells)) (by simp))) (by omega) (by omega) (by omega)) ?_
  intro _
  refine xl_endS [12,14,15] [(12,.v (.slice v10a ((write c text).2.2.length) v10c)),(14,.v (.int .i64 ((1 + 2 * (((write c text).1.r.held).length : Int)) + 13 * (((write c text).2.2).length : Int)))),(15,.v (.int .i64 (1 + 2 * (((write c text).1.r.held).length : Int))))] (by kernel_rfl) ?_
  refine xw_seq ?_
  refine xw_seq ?_
  refine xw_region ?_
  refine xl_endS [12,14,15,132] [(12,.v (.slice v10a ((write c text).2.2.length) v10c)),(14,.v (.int .i64 ((1 + 2 * (((write c text).1.r.held).length : Int)) + 13 * (((write c text).2.2).length : Int)))),(15,.v (.int .i64 (1 + 2 * (((write c text).1.r.held).length : Int)))),(132,.v (.bool (decide ((1 + 2 * (((write c text).1.r.held).length : Int)) < 0))))] (by kernel_rfl) ?_
  refine xw_cond (b := decide ((1 + 2 * (((write c text).1.r.held).length : Int)) < 0)) (by kernel_rfl) (fun h24 => ?_) (fun h24 => ?_)
  have h24p : ((1 + 2 * (((write c text).1.r.held).length : Int)) < 0) := of_decide_eq_true h24
  exfalso; have := of_decide_eq_true h24; omega
  have h24p : ¬ ((1 + 2 * (((write c text).1.r.held).length : Int)) < 0) := of_decide_eq_false h24
  refine xw_skip ?_
  refine xw_seq ?_
  refine xw_region ?_
  refine xl_callS 2 [14,15,133,134] [(14,.v (.int .i64 ((1 + 2 * (((write c text).1.r.held).length : Int)) + 13 * (((write c text).2.2).length : Int)))),(15,.v (.int .i64 (1 + 2 * (((write c text).1.r.held).length : Int)))),(133,.v (.slice v10a ((write c text).2.2.length) v10c)),(134,.v (.int .i64 (1 + 2 * (((write c text).1.r.held).length : Int))))] 40 [.slice v10a ((write c text).2.2.length) v10c,.int .i64 (1 + 2 * (((write c text).1.r.held).length : Int))] (some 135) (by kernel_rfl) rfl (by kernel_rfl) rfl (by kernel_rfl) (xc_b fun ww hf => yheldSegmentS_m ((write c text).2.2).length  (.slice v10a ((write c text).2.2.length) v10c) (1 + 2 * (((write c text).1.r.held).length : Int)) ww (Own.sl (hf (ownF w.heap.size (.slice v10a ((write c text).2.2.length) v10c) 13 ((marks mkS 13 (1 + 2 * (((write c text).1.r.held).length : Int)) ((write c text).2.2).length).map segCells)) (by simp))) (by omega) (by omega) (by omega)) ?_
  intro _
  refine xl_endS [14,15] [(14,.v (.int .i64 ((1 + 2 * (((write c text).1.r.held).length : Int)) + 13 * (((write c text).2.2).length : Int)))),(15,.v (.int .i64 ((1 + 2 * (((write c text).1.r.held).length : Int)) + 13 * (((write c text).2.2).length : Int))))] (by kernel_rfl) ?_
  refine xw_seq ?_
  refine xw_seq ?_
  refine xw_region ?_
  refine xl_endS [14,15,137] [(14,.v (.int .i64 ((1 + 2 * (((write c text).1.r.held).length : Int)) + 13 * (((write c text).2.2).length : Int)))),(15,.v (.int .i64 ((1 + 2 * (((write c text).1.r.held).length : Int)) + 13 * (((write c text).2.2).length : Int)))),(137,.v (.bool (decide (((1 + 2 * (((write c text).1.r.held).length : Int)) + 13 * (((write c text).2.2).length : Int)) < 0))))] (by kernel_rfl) ?_
  refine xw_cond (b := decide (((1 + 2 * (((write c text).1.r.held).length : Int)) + 13 * (((write c text).2.2).length : Int)) < 0)) (by kernel_rfl) (fun h25 => ?_) (fun h25 => ?_)
  have h25p : (((1 + 2 * (((write c text).1.r.held).length : Int)) + 13 * (((write c text).2.2).length : Int)) < 0) := of_decide_eq_true h25
  exfalso; have := of_decide_eq_true h25; omega
  have h25p : ¬ (((1 + 2 * (((write c text).1.r.held).length : Int)) + 13 * (((write c text).2.2).length : Int)) < 0) := of_decide_eq_false h25
  refine xw_skip ?_
  refine xw_seq ?_
  refine xw_seq ?_
  refine xw_region ?_
  refine xl_endS [140] [(140,.v (.bool (((1 + 2 * (((write c text).1.r.held).length : Int)) + 13 * (((write c text).2.2).length : Int)) != ((1 + 2 * (((write c text).1.r.held).length : Int)) + 13 * (((write c text).2.2).length : Int)))))] (by kernel_rfl) ?_
  refine xw_cond (b := ((1 + 2 * (((write c text).1.r.held).length : Int)) + 13 * (((write c text).2.2).length : Int)) != ((1 + 2 * (((write c text).1.r.held).length : Int)) + 13 * (((write c text).2.2).length : Int))) (by kernel_rfl) (fun h26 => ?_) (fun h26 => ?_)
  simp at h26
  have h26p := neF h26
  refine xw_skip ?_
  refine xw_seq ?_
  refine xw_region ?_
  refine xl_endS [4] [(4,.v (.bool true))] (by kernel_rfl) ?_
  refine xw_ret ?_
  exact ⟨[.bool true],by kernel_rfl,fun w' hb hf => ⟨rfl,hb⟩⟩

set_option maxRecDepth 100000 in
theorem fnExactWrite_lifted (os : Os) (started : os.Started) (H : Type) (enc : TypeId × Value → H) :
    ReturnsInHanded {} Try.checked os 12 .any (Rows.fnExactWriteSpec.pre6 enc Try.prog Try.f12 Rows.fnExactWriteRow.domain false) (Rows.fnExactWriteSpec.post enc Try.prog Try.f12 false true false false) := by
  refine returnsInHanded_of_change (C := Try.checked) Try.ownK started (by kernel_rfl) Try.func12
    (ChangeSpec.witness6 (enc := enc) (C := Try.checked) false ⟨#[], #[.agg #[.int .i64 0, .int .i64 0, .int .i64 0, .int .i64 0, .int .i64 0, .string ⟨#[]⟩, .int .i64 0, .bool false, .bool false, .bool false, .int .i64 0, .string ⟨#[]⟩, .slice none 0 0, .int .i64 0, .bool false, .int .i64 0, .int .i64 0, .int .i64 0, .int .i64 0, .bool false, .bool false, .int .i64 0, .int .i64 0, .int .i64 0, .int .i64 0], .string ⟨#[]⟩], []⟩ 8 (by kernel_rfl) (by kernel_rfl) (by kernel_rfl) (by kernel_rfl)) ?_
  intro W base args ds gs before hval0 hW hcnd _
  have hval : ∀ (j : Nat) t v, Try.f12.params[j]? = some t → args[j]? = some v → Value.okWide Try.prog W .any base t v := hval0
  have hW' := hW
  obtain ⟨p, q, hA0, hV, rfl, hfz, hnd⟩ := hW
  have hA : DataW.TrodAll enc Try.prog W 0 (fun _ => true) true Try.f12.params.toList args.toList ds p := hA0
  rw [Try.params12] at hA hval
  obtain ⟨v0, vs0, d0, ds0, p0, q0, hargs, rfl, rfl, h0, r0⟩ := trodAll_cons hA
  obtain ⟨v1, vs1, d1, ds1, p1, q1, rfl, rfl, rfl, h1, r1⟩ := trodAll_cons r0
  obtain ⟨rfl, rfl, rfl⟩ := trodAll_nil r1
  obtain rfl : args = #[v0, v1] := by cases args; simp_all
  obtain ⟨rfl, rfl⟩ := trodVars_none hV
  clear hA0 hval0
  have g0 := h0
  have g1 := h1
  obtain ⟨cs0, rfl, -⟩ := okWide_struct Try.underlying32 (hval 0 _ v0 rfl rfl)
  obtain ⟨fuel0, f0⟩ := g0
  obtain ⟨c_t_ip, c_t_port, c_t_my, c_state, c_s_una, c_s_data, c_s_sent, c_s_fin, c_s_finSent, c_s_done, c_r_next, c_r_data, c_r_held_v, c_r_fin, c_r_done, c_window, c_most, c_o_mss, c_o_scale, c_o_sack, c_o_stamp, c_o_val, c_o_echo, c_timer, c_tries, e0, F_c_t_ip, F_c_t_port, F_c_t_my, F_c_state, F_c_s_una, F_c_s_data, F_c_s_sent, F_c_r_next, F_c_r_data, F_c_r_held, F_c_r_fin, F_c_window, F_c_most, F_c_o_mss, F_c_o_scale, F_c_o_val, F_c_o_echo, F_c_timer, F_c_tries⟩ := open_CON f0
  obtain rfl : cs0 = #[.int .i64 c_t_ip, .int .i64 c_t_port, .int .i64 c_t_my, .int .i64 c_state, .int .i64 c_s_una, .string c_s_data, .int .i64 c_s_sent, .bool c_s_fin, .bool c_s_finSent, .bool c_s_done, .int .i64 c_r_next, .string c_r_data, c_r_held_v, .int .i64 c_r_fin, .bool c_r_done, .int .i64 c_window, .int .i64 c_most, .int .i64 c_o_mss, .int .i64 c_o_scale, .bool c_o_sack, .bool c_o_stamp, .int .i64 c_o_val, .int .i64 c_o_echo, .int .i64 c_timer, .int .i64 c_tries] := by cases cs0; simpa [Value.cells] using e0
  clear e0
  obtain ⟨_, _, T_c_r_held⟩ := F_c_r_held
  obtain ⟨c_r_held, L_c_r_held, M_c_r_held⟩ := openSc_PCE T_c_r_held
  obtain ⟨a1, rfl, w1⟩ := openS_str (hval 1 _ v1 rfl rfl) g1
  refine (fnExactWrite_walk (⟨⟨c_t_ip, c_t_port, c_t_my⟩, c_state, ⟨c_s_una, c_s_data, c_s_sent, c_s_fin, c_s_finSent, c_s_done⟩, ⟨c_r_next, c_r_data, c_r_held, c_r_fin, c_r_done⟩, c_window, c_most, ⟨c_o_mss, c_o_scale, c_o_sack, c_o_stamp, c_o_val, c_o_echo⟩, c_timer, c_tries⟩ : Con) c_r_held_v a1 W F_c_s_data F_c_r_data L_c_r_held M_c_r_held w1).mono fun e W' ⟨he, hb⟩ => ?_
  subst he
  have hlt : ∀ x ∈ (p0 ++ (p1 ++ ([]))) ++ [], x.block < W.heap.size := fun x hx => hW'.lt x hx
  refine ⟨_, rfl, post_of_below (pa := (p0 ++ (p1 ++ ([])))) (pv := []) hW' (fun _ _ _ => trodAll_cons_mk (shut_bool Try.underlying4 _) trodAll_mk0) (fun sp hsp => trodAll_cons_mk (WideElems.Trod_stays Try.laidOut (by kernel_rfl) (of_decide_eq_true (by kernel_rfl)) h0 (fun x hx => hb.same (hlt x (List.mem_append_left _ (List.mem_append_left _ hx)))) (fun x hx => hsp x (List.mem_append_left _ (List.mem_append_left _ hx)))) (trodAll_cons_mk (WideElems.Trod_stays Try.laidOut (by kernel_rfl) (of_decide_eq_true (by kernel_rfl)) h1 (fun x hx => hb.same (hlt x (List.mem_append_left _ (List.mem_append_right _ (List.mem_append_left _ hx))))) (fun x hx => hsp x (List.mem_append_left _ (List.mem_append_right _ (List.mem_append_left _ hx))))) (trodAll_mk0))) (fun _ _ => rfl) rfl hb (ok_one (by kernel_rfl) rfl (okWide_bool_mk Try.underlying4 _))⟩

theorem fnExactWrite_over : Rows.fnExactWriteRow.holds Try.pinned (OpenSpec.ofChange Rows.fnExactWriteSpec) :=
  OpenClaim.holds_of_wide 12 Try.f12 rfl rfl rfl rfl rfl rfl rfl ⟨rfl, rfl, rfl, rfl, rfl⟩ rfl rfl rfl rfl rfl (by kernel_rfl) Try.func12 (by kernel_rfl)
    (of_decide_eq_true (by kernel_rfl)) (by unfold Func.isWrapper; first | (rw [if_pos (by decide +kernel)]; kernel_rfl) | (rw [if_neg (by decide +kernel)]; exact ⟨rfl, rfl⟩))
    (fun os started H enc _ => fnExactWrite_lifted os started H enc)

theorem fnExactWrite_holds : Rows.FnExactWriteSaid := fnExactWrite_over
#print axioms fnExactWrite_holds
end Go.Proofs.Ytjfamgkkenccdaa
