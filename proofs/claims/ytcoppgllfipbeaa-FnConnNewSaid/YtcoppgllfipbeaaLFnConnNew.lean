/- The law FnConnNew holds: for every argument the program's function answers true and leaves its arguments as they were. Conditions: none beyond the given row's. -/
import Derived.Test.YtcoppgllfipbeaaZ2
import Derived.Test.YtcoppgllfipbeaaOB
namespace Go.Proofs.Ytcoppgllfipbeaa
open Go.RowKit Go.ChangeShapes Go.WideShapes Go.ChangeAt
set_option linter.unusedVariables false
set_option linter.unusedSimpArgs false

set_option maxRecDepth 100000 in
set_option maxHeartbeats 2000000 in
theorem fnConnNew_walk (code : List Int) (codeV : Value) (w : World) (hl_codeV : Sl w codeV 1 (code.map byteRow)) : Calls Try.prog 5 #[codeV] w fun e w' => e = .returned (.bool true) ∧ Below w.heap.size w w' := by
  obtain ⟨Ac,Cc,hvc⟩ := hl_codeV.form
  rw [List.length_map] at hvc; subst hvc
  have hnc := hl_codeV.len; rw [List.length_map] at hnc
  have hqc := Sl.capLe hl_codeV
  refine x_calls (args := [.slice Ac code.length Cc]) (fn := Try.f5) [slF (.slice Ac code.length Cc) 1 (code.map byteRow)] Try.func5 rfl Try.ntmps5 rfl (by simp only [List.mem_cons,List.not_mem_nil,or_false,forall_eq_or_imp,forall_eq]; exact ⟨rfl,hl_codeV⟩) ?_
  refine xw_seq ?_
  refine xw_region ?_
  refine xl_end [0] ⟨[(0,.v (.slice Ac code.length Cc))],[],[],[slF (.slice Ac code.length Cc) 1 (code.map byteRow)]⟩ (by kernel_rfl) ?_
  refine xw_seq ?_
  refine xw_seq ?_
  refine xw_region ?_
  refine xl_callS 1 [0,10] [(0,.v (.slice Ac code.length Cc)),(10,.v (.slice Ac code.length Cc))] 7 [.slice Ac code.length Cc] (some 11) (by kernel_rfl) rfl (by kernel_rfl) rfl (by kernel_rfl) (xc_b fun ww hf => big_c code Ac Cc ww (hf (slF (.slice Ac code.length Cc) 1 (code.map byteRow)) (by simp))) ?_
  intro _
  refine xl_endS [0,11] [(0,.v (.slice Ac code.length Cc)),(11,.v (.bool (decide (((code.length : Nat) : Int) > 1048576))))] (by kernel_rfl) ?_
  refine xw_cond (b := decide (((code.length : Nat) : Int) > 1048576)) (by kernel_rfl) (fun h1 => ?_) (fun h1 => ?_)
  have h1p : (((code.length : Nat) : Int) > 1048576) := of_decide_eq_true h1
  refine xw_seq ?_
  refine xw_region ?_
  refine xl_endS [2] [(2,.v (.bool true))] (by kernel_rfl) ?_
  refine xw_ret ?_
  exact ⟨[.bool true],by kernel_rfl,fun w' hb hf => ⟨rfl,hb⟩⟩
  have h1p : ¬ (((code.length : Nat) : Int) > 1048576) := of_decide_eq_false h1
  have hbig : code.length ≤ 1048576 := by simp at h1; omega
  refine xw_skip ?_
  refine xw_seq ?_
  refine xw_region ?_
  refine xl_callS 1 [13] [(13,.v (.slice Ac code.length Cc))] 17 [.slice Ac code.length Cc] (some 14) (by kernel_rfl) rfl (by kernel_rfl) rfl (by kernel_rfl) (xc_e (α := Tup × Int × Int × Opt × Int) (F := fun y => .tuple #[.agg (tupL y.1).toArray,.int .i64 y.2.1,.int .i64 y.2.2.1,.agg (optL y.2.2.2.1).toArray,.int .i64 y.2.2.2.2]) (p := fun y => True) fun ww hf => drawConnNew_c code Ac Cc ww (hf (slF (.slice Ac code.length Cc) 1 (code.map byteRow)) (by simp)) (by omega)) ?_
  rintro ⟨⟨d2,d3,d4,d5,d6⟩,hd7⟩
  refine xl_end [3,4,5,6,7] ⟨[(3,.p 0 0),(4,.v (.int .i64 d3)),(5,.v (.int .i64 d4)),(6,.p 1 0),(7,.v (.int .i64 d6))],[⟨36,tupL d2⟩,⟨25,optL d5⟩],[],[slF (.slice Ac code.length Cc) 1 (code.map byteRow)]⟩ (by kernel_rfl) ?_
  refine xw_seq ?_
  refine xw_region ?_
  refine xl_callS 5 [3,4,5,6,7,20,21,22,23,24] [(3,.p 0 0),(4,.v (.int .i64 d3)),(5,.v (.int .i64 d4)),(6,.p 1 0),(7,.v (.int .i64 d6)),(20,.v (.agg (tupL d2).toArray)),(21,.v (.int .i64 d3)),(22,.v (.int .i64 d4)),(23,.v (.agg (optL d5).toArray)),(24,.v (.int .i64 d6))] 18 [.agg (tupL d2).toArray,.int .i64 d3,.int .i64 d4,.agg (optL d5).toArray,.int .i64 d6] (some 25) (by kernel_rfl) rfl (by kernel_rfl) rfl (by kernel_rfl) (xc_r fun ww hw hf => yiConnNew_c d2 d3 d4 d5 d6 ww   w.heap.size hw) ?_
  rintro ⟨v8a,v8c⟩
  have hkn := connNew_bd d2 d3 d4 d5 d6 (by omega)
  have hcm := cn_hm d2 d3 d4 d5 d6
  have hcs := cn_hs d2 d3 d4 d5 d6
  refine xl_end [3,4,5,6,7,8] ⟨[(3,.p 0 0),(4,.v (.int .i64 d3)),(5,.v (.int .i64 d4)),(6,.p 1 0),(7,.v (.int .i64 d6)),(8,.p 2 0)],[⟨36,tupL d2⟩,⟨25,optL d5⟩,⟨45,conL (connNew d2 d3 d4 d5 d6) (.slice v8a ((connNew d2 d3 d4 d5 d6).r.held.length) v8c)⟩],[],[ownF w.heap.size (.slice v8a ((connNew d2 d3 d4 d5 d6).r.held.length) v8c) 2 ((connNew d2 d3 d4 d5 d6).r.held.map pceCells),slF (.slice Ac code.length Cc) 1 (code.map byteRow)]⟩ (by kernel_rfl) ?_
  refine xw_seq ?_
  refine xw_seq ?_
  refine xe_region [] (by kernel_rfl) (fun ρ σ => ?_)
  refine xe_tkS [0,1,2,3,4,5] [31,30,29,28,27,26,3,4,5,8] 3 [(31,.v (.int .i64 d6)),(30,.v (.agg (optL d5).toArray)),(29,.v (.int .i64 d4)),(28,.v (.int .i64 d3)),(27,.v (.agg (tupL d2).toArray)),(26,.v (.agg (conL (connNew d2 d3 d4 d5 d6) (.slice v8a ((connNew d2 d3 d4 d5 d6).r.held.length) v8c)).toArray)),(3,.p 0 0),(4,.v (.int .i64 d3)),(5,.v (.int .i64 d4)),(8,.p 2 0)] (fun _ _ h => h) rfl (by kernel_rfl) ?_
  refine xe_all [6] (by kernel_rfl) (by simp) ?_
  refine xs_call 6 20 [.agg (tupL d2).toArray,.int .i64 d3,.int .i64 d4,.agg (optL d5).toArray,.int .i64 d6] (some 32) rfl (by kernel_rfl) rfl (by kernel_rfl) (xc_r fun ww hw hf => ysConnNew_c d2 d3 d4 d5 d6 ww   w.heap.size hw) ?_
  rintro ⟨v9a,v9c⟩
  have hbd10 : (connNew d2 d3 d4 d5 d6).r.held.length ≤ 1048576 := connNew_bd _ _ _ _ _  (by omega)
  refine xe_all [7] (by kernel_rfl) (by simp) ?_
  refine xs_call 7 19 [.agg (conL (connNew d2 d3 d4 d5 d6) (.slice v8a ((connNew d2 d3 d4 d5 d6).r.held.length) v8c)).toArray,.agg (conL (connNew d2 d3 d4 d5 d6) (.slice v9a ((connNew d2 d3 d4 d5 d6).r.held.length) v9c)).toArray] (some 33) rfl (by kernel_rfl) rfl (by kernel_rfl) (xc_b fun ww hf => ysSameConn_c (connNew d2 d3 d4 d5 d6) (.slice v8a ((connNew d2 d3 d4 d5 d6).r.held.length) v8c) (connNew d2 d3 d4 d5 d6) (.slice v9a ((connNew d2 d3 d4 d5 d6).r.held.length) v9c) ww (Own.sl (hf (ownF w.heap.size (.slice v8a ((connNew d2 d3 d4 d5 d6).r.held.length) v8c) 2 ((connNew d2 d3 d4 d5 d6).r.held.map pceCells)) (by simp))) (Own.sl (hf (ownF w.heap.size (.slice v9a ((connNew d2 d3 d4 d5 d6).r.held.length) v9c) 2 ((connNew d2 d3 d4 d5 d6).r.held.map pceCells)) (by simp))) ) ?_
  intro _
  refine xe_tkS [8] [34,3,4,5,8] 0 [(34,.v (.bool (!(sameConn (connNew d2 d3 d4 d5 d6) (connNew d2 d3 d4 d5 d6))))),(3,.p 0 0),(4,.v (.int .i64 d3)),(5,.v (.int .i64 d4)),(8,.p 2 0)] (fun _ _ h => h) rfl (by kernel_rfl) ?_
  refine xe_done (by kernel_rfl) ?_
  refine xw_cond (b := !(sameConn (connNew d2 d3 d4 d5 d6) (connNew d2 d3 d4 d5 d6))) (by kernel_rfl) (fun h11 => ?_) (fun h11 => ?_)
  have h11n := not_t h11
  exfalso; rw [sameConn_self] at h11n; cases h11n
  have h11n := not_f h11
  refine xw_skip ?_
  refine xw_seq ?_
  refine xw_region ?_
  refine xl_callS 1 [3,4,5,8,35] [(3,.p 0 0),(4,.v (.int .i64 d3)),(5,.v (.int .i64 d4)),(8,.p 2 0),(35,.v (.agg (conL (connNew d2 d3 d4 d5 d6) (.slice v8a ((connNew d2 d3 d4 d5 d6).r.held.length) v8c)).toArray))] 21 [.agg (conL (connNew d2 d3 d4 d5 d6) (.slice v8a ((connNew d2 d3 d4 d5 d6).r.held.length) v8c)).toArray] (some 36) (by kernel_rfl) rfl (by kernel_rfl) rfl (by kernel_rfl) (xc_b fun ww hf => iAckOf_c ((connNew d2 d3 d4 d5 d6).t.ip) ((connNew d2 d3 d4 d5 d6).t.port) ((connNew d2 d3 d4 d5 d6).t.my) ((connNew d2 d3 d4 d5 d6).state) ((connNew d2 d3 d4 d5 d6).s.una) ((connNew d2 d3 d4 d5 d6).s.data) ((connNew d2 d3 d4 d5 d6).s.sent) ((connNew d2 d3 d4 d5 d6).s.fin) ((connNew d2 d3 d4 d5 d6).s.finSent) ((connNew d2 d3 d4 d5 d6).s.done) ((connNew d2 d3 d4 d5 d6).r.next) ((connNew d2 d3 d4 d5 d6).r.data) ((connNew d2 d3 d4 d5 d6).r.held) (.slice v8a ((connNew d2 d3 d4 d5 d6).r.held.length) v8c) ((connNew d2 d3 d4 d5 d6).r.fin) ((connNew d2 d3 d4 d5 d6).r.done) ((connNew d2 d3 d4 d5 d6).window) ((connNew d2 d3 d4 d5 d6).most) ((connNew d2 d3 d4 d5 d6).o.mss) ((connNew d2 d3 d4 d5 d6).o.scale) ((connNew d2 d3 d4 d5 d6).o.sack) ((connNew d2 d3 d4 d5 d6).o.stamp) ((connNew d2 d3 d4 d5 d6).o.val) ((connNew d2 d3 d4 d5 d6).o.echo) ((connNew d2 d3 d4 d5 d6).timer) ((connNew d2 d3 d4 d5 d6).tries) ww (by omega)) ?_
  intro _
  refine xl_end [3,4,5,8,9] ⟨[(3,.p 0 0),(4,.v (.int .i64 d3)),(5,.v (.int .i64 d4)),(8,.p 2 0),(9,.p 3 0)],[⟨36,tupL d2⟩,⟨25,optL d5⟩,⟨45,conL (connNew d2 d3 d4 d5 d6) (.slice v8a ((connNew d2 d3 d4 d5 d6).r.held.length) v8c)⟩,⟨30,[.int .i64 ((connNew d2 d3 d4 d5 d6).t.my),.int .i64 ((connNew d2 d3 d4 d5 d6).t.port),.int .i64 (nextOf ((connNew d2 d3 d4 d5 d6).s)),.int .i64 ((connNew d2 d3 d4 d5 d6).r.next),.int .i64 16,.int .i64 (windowOf ((connNew d2 d3 d4 d5 d6).r)),.int .i64 0,.int .i64 (-1),.bool false,.bool false,.int .i64 0,.int .i64 0,.string (⟨#[]⟩ : ByteArray)]⟩],[],[ownF w.heap.size (.slice v9a ((connNew d2 d3 d4 d5 d6).r.held.length) v9c) 2 ((connNew d2 d3 d4 d5 d6).r.held.map pceCells),ownF w.heap.size (.slice v8a ((connNew d2 d3 d4 d5 d6).r.held.length) v8c) 2 ((connNew d2 d3 d4 d5 d6).r.held.map pceCells),slF (.slice Ac code.length Cc) 1 (code.map byteRow)]⟩ (by kernel_rfl) ?_
  refine xw_seq ?_
  refine xw_join ⟨[(2,.v (.bool (decide ((mssFor (connNew d2 d3 d4 d5 d6)) ≤ 1460))))],[⟨36,tupL d2⟩,⟨25,optL d5⟩,⟨45,conL (connNew d2 d3 d4 d5 d6) (.slice v8a ((connNew d2 d3 d4 d5 d6).r.held.length) v8c)⟩,⟨30,[.int .i64 ((connNew d2 d3 d4 d5 d6).t.my),.int .i64 ((connNew d2 d3 d4 d5 d6).t.port),.int .i64 (nextOf ((connNew d2 d3 d4 d5 d6).s)),.int .i64 ((connNew d2 d3 d4 d5 d6).r.next),.int .i64 16,.int .i64 (windowOf ((connNew d2 d3 d4 d5 d6).r)),.int .i64 0,.int .i64 (-1),.bool false,.bool false,.int .i64 0,.int .i64 0,.string (⟨#[]⟩ : ByteArray)]⟩],[],[ownF w.heap.size (.slice v9a ((connNew d2 d3 d4 d5 d6).r.held.length) v9c) 2 ((connNew d2 d3 d4 d5 d6).r.held.map pceCells),ownF w.heap.size (.slice v8a ((connNew d2 d3 d4 d5 d6).r.held.length) v8c) 2 ((connNew d2 d3 d4 d5 d6).r.held.map pceCells),slF (.slice Ac code.length Cc) 1 (code.map byteRow)]⟩ ?_ ?_
  refine xe_region [] (by kernel_rfl) (fun ρ σ => ?_)
  refine xe_tkS [0,2] [39,37,3,4,5,8,9] 42 [(39,.v (.agg (tupL d2).toArray)),(37,.v (.agg (conL (connNew d2 d3 d4 d5 d6) (.slice v8a ((connNew d2 d3 d4 d5 d6).r.held.length) v8c)).toArray)),(3,.p 0 0),(4,.v (.int .i64 d3)),(5,.v (.int .i64 d4)),(8,.p 2 0),(9,.p 3 0)] (fun _ _ h => h) rfl (by kernel_rfl) ?_
  refine xe_all [1] (by kernel_rfl) (by simp) ?_
  refine xs_call 1 22 [.agg (conL (connNew d2 d3 d4 d5 d6) (.slice v8a ((connNew d2 d3 d4 d5 d6).r.held.length) v8c)).toArray] (some 38) rfl (by kernel_rfl) rfl (by kernel_rfl) (xc_b fun ww hf => yiConnOk_c (connNew d2 d3 d4 d5 d6) (.slice v8a ((connNew d2 d3 d4 d5 d6).r.held.length) v8c) ww (Own.sl (hf (ownF w.heap.size (.slice v8a ((connNew d2 d3 d4 d5 d6).r.held.length) v8c) 2 ((connNew d2 d3 d4 d5 d6).r.held.map pceCells)) (by simp))) (by assumption) (by omega)) ?_
  intro _
  refine xe_all [3] (by kernel_rfl) (by simp) ?_
  refine xs_call 3 23 [.agg (tupL d2).toArray] (some 40) rfl (by kernel_rfl) rfl (by kernel_rfl) (xc_b fun ww hf => sTupleOk_c d2.ip d2.port d2.my ww ) ?_
  intro _
  refine xe_tkS [4,5] [42,3,4,5,8,9] 38 [(42,.v (.bool ((conOk (connNew d2 d3 d4 d5 d6)) == (tupleOk d2)))),(3,.p 0 0),(4,.v (.int .i64 d3)),(5,.v (.int .i64 d4)),(8,.p 2 0),(9,.p 3 0)] (fun _ _ h => h) rfl (by kernel_rfl) ?_
  refine xe_split 42 (b := (conOk (connNew d2 d3 d4 d5 d6)) == (tupleOk d2)) (by kernel_rfl) (fun h12 => ?_) (fun h12 => ?_)
  have h12p := eqT h12
  refine xe_tkS [6,7,8] [45,44,42,3,5,8,9] 35 [(45,.v (.int .i64 d3)),(44,.v (.int .i64 (nextOf ((connNew d2 d3 d4 d5 d6).s)))),(42,.v (.bool true)),(3,.p 0 0),(5,.v (.int .i64 d4)),(8,.p 2 0),(9,.p 3 0)] (fun _ _ h => h) rfl (by kernel_rfl) ?_
  refine xe_all [9] (by kernel_rfl) (by simp) ?_
  refine xs_call 9 24 [.int .i64 d3,.int .i64 1] (some 46) rfl (by kernel_rfl) rfl (by kernel_rfl) (xc_s fun ww hf => sSeqAdd_c d3 1 ww ) ?_
  intro _
  refine xe_tkS [10,11,12] [49,3,5,8,9] 31 [(49,.v (.bool ((nextOf ((connNew d2 d3 d4 d5 d6).s)) == (seqAdd d3 1)))),(3,.p 0 0),(5,.v (.int .i64 d4)),(8,.p 2 0),(9,.p 3 0)] (fun _ _ h => h) rfl (by kernel_rfl) ?_
  refine xe_split 49 (b := (nextOf ((connNew d2 d3 d4 d5 d6).s)) == (seqAdd d3 1)) (by kernel_rfl) (fun h13 => ?_) (fun h13 => ?_)
  have h13p := eqT h13
  refine xe_tkS [13,14,15] [52,51,49,3,8,9] 28 [(52,.v (.int .i64 d4)),(51,.v (.int .i64 ((connNew d2 d3 d4 d5 d6).r.next))),(49,.v (.bool true)),(3,.p 0 0),(8,.p 2 0),(9,.p 3 0)] (fun _ _ h => h) rfl (by kernel_rfl) ?_
  refine xe_all [16] (by kernel_rfl) (by simp) ?_
  refine xs_call 16 24 [.int .i64 d4,.int .i64 1] (some 53) rfl (by kernel_rfl) rfl (by kernel_rfl) (xc_s fun ww hf => sSeqAdd_c d4 1 ww ) ?_
  intro _
  refine xe_tkS [17,18,19] [56,3,8,9] 24 [(56,.v (.bool (((connNew d2 d3 d4 d5 d6).r.next) == (seqAdd d4 1)))),(3,.p 0 0),(8,.p 2 0),(9,.p 3 0)] (fun _ _ h => h) rfl (by kernel_rfl) ?_
  refine xe_split 56 (b := ((connNew d2 d3 d4 d5 d6).r.next) == (seqAdd d4 1)) (by kernel_rfl) (fun h14 => ?_) (fun h14 => ?_)
  have h14p := eqT h14
  refine xe_tkS [20,21,22,23,24] [61,3,8,9] 19 [(61,.v (.bool ((windowOf ((connNew d2 d3 d4 d5 d6).r)) == 32))),(3,.p 0 0),(8,.p 2 0),(9,.p 3 0)] (fun _ _ h => h) rfl (by kernel_rfl) ?_
  refine xe_split 61 (b := (windowOf ((connNew d2 d3 d4 d5 d6).r)) == 32) (by kernel_rfl) (fun h15 => ?_) (fun h15 => ?_)
  have h15p := eqT h15
  refine xe_tkS [25] [62,61,8,9] 18 [(62,.v (.agg (tupL d2).toArray)),(61,.v (.bool true)),(8,.p 2 0),(9,.p 3 0)] (fun _ _ h => h) rfl (by kernel_rfl) ?_
  refine xe_all [26] (by kernel_rfl) (by simp) ?_
  refine xs_call 26 23 [.agg (tupL d2).toArray] (some 63) rfl (by kernel_rfl) rfl (by kernel_rfl) (xc_b fun ww hf => sTupleOk_c d2.ip d2.port d2.my ww ) ?_
  intro _
  refine xe_tkS [27,28] [65,61,8,9] 15 [(65,.v (.bool (!(tupleOk d2)))),(61,.v (.bool true)),(8,.p 2 0),(9,.p 3 0)] (fun _ _ h => h) rfl (by kernel_rfl) ?_
  refine xe_split 65 (b := !(tupleOk d2)) (by kernel_rfl) (fun h16 => ?_) (fun h16 => ?_)
  have h16n := not_t h16
  refine xe_tkS [29,30,31,32,33,34] [71,70,8] 9 [(71,.v (.agg (conL (connNew d2 d3 d4 d5 d6) (.slice v8a ((connNew d2 d3 d4 d5 d6).r.held.length) v8c)).toArray)),(70,.v (.bool true)),(8,.p 2 0)] (fun _ _ h => h) rfl (by kernel_rfl) ?_
  refine xe_all [35] (by kernel_rfl) (by simp) ?_
  refine xs_call 35 26 [.agg (conL (connNew d2 d3 d4 d5 d6) (.slice v8a ((connNew d2 d3 d4 d5 d6).r.held.length) v8c)).toArray] (some 72) rfl (by kernel_rfl) rfl (by kernel_rfl) (xc_b fun ww hf => yiMssFor_c (connNew d2 d3 d4 d5 d6) (.slice v8a ((connNew d2 d3 d4 d5 d6).r.held.length) v8c) ww ) ?_
  intro _
  refine xe_tkS [36,37,38] [75,8] 5 [(75,.v (.bool (decide ((mssFor (connNew d2 d3 d4 d5 d6)) ≥ 1)))),(8,.p 2 0)] (fun _ _ h => h) rfl (by kernel_rfl) ?_
  refine xe_split 75 (b := decide ((mssFor (connNew d2 d3 d4 d5 d6)) ≥ 1)) (by kernel_rfl) (fun h17 => ?_) (fun h17 => ?_)
  have h17p : ((mssFor (connNew d2 d3 d4 d5 d6)) ≥ 1) := of_decide_eq_true h17
  refine xe_tkS [39] [76,75] 4 [(76,.v (.agg (conL (connNew d2 d3 d4 d5 d6) (.slice v8a ((connNew d2 d3 d4 d5 d6).r.held.length) v8c)).toArray)),(75,.v (.bool true))] (fun _ _ h => h) rfl (by kernel_rfl) ?_
  refine xe_all [40] (by kernel_rfl) (by simp) ?_
  refine xs_call 40 26 [.agg (conL (connNew d2 d3 d4 d5 d6) (.slice v8a ((connNew d2 d3 d4 d5 d6).r.held.length) v8c)).toArray] (some 77) rfl (by kernel_rfl) rfl (by kernel_rfl) (xc_b fun ww hf => yiMssFor_c (connNew d2 d3 d4 d5 d6) (.slice v8a ((connNew d2 d3 d4 d5 d6).r.held.length) v8c) ww ) ?_
  intro _
  refine xe_tkS [41,42,43] [2] 0 [(2,.v (.bool (decide ((mssFor (connNew d2 d3 d4 d5 d6)) ≤ 1460))))] (fun _ _ h => h) rfl (by kernel_rfl) ?_
  refine xe_done (by kernel_rfl) ?_
  exact wk_forget 4 0 [2] (by kernel_rfl) (by kernel_rfl) (by kernel_rfl)
  have h17p : ¬ ((mssFor (connNew d2 d3 d4 d5 d6)) ≥ 1) := of_decide_eq_false h17
  exfalso; have := cn_mss d2 d3 d4 d5 d6; simp at h17; omega
  have h16n := not_f h16
  refine xe_tkS [29] [66,65,61,8] 14 [(66,.v (.agg #[.int .i64 ((connNew d2 d3 d4 d5 d6).t.my),.int .i64 ((connNew d2 d3 d4 d5 d6).t.port),.int .i64 (nextOf ((connNew d2 d3 d4 d5 d6).s)),.int .i64 ((connNew d2 d3 d4 d5 d6).r.next),.int .i64 16,.int .i64 (windowOf ((connNew d2 d3 d4 d5 d6).r)),.int .i64 0,.int .i64 (-1),.bool false,.bool false,.int .i64 0,.int .i64 0,.string (⟨#[]⟩ : ByteArray)])),(65,.v (.bool false)),(61,.v (.bool true)),(8,.p 2 0)] (fun _ _ h => h) rfl (by kernel_rfl) ?_
  refine xe_all [30] (by kernel_rfl) (by simp) ?_
  refine xs_call 30 25 [.agg #[.int .i64 ((connNew d2 d3 d4 d5 d6).t.my),.int .i64 ((connNew d2 d3 d4 d5 d6).t.port),.int .i64 (nextOf ((connNew d2 d3 d4 d5 d6).s)),.int .i64 ((connNew d2 d3 d4 d5 d6).r.next),.int .i64 16,.int .i64 (windowOf ((connNew d2 d3 d4 d5 d6).r)),.int .i64 0,.int .i64 (-1),.bool false,.bool false,.int .i64 0,.int .i64 0,.string (⟨#[]⟩ : ByteArray)]] (some 67) rfl (by kernel_rfl) rfl (by kernel_rfl) (xc_b fun ww hf => ysSegmentOk_c (⟨(connNew d2 d3 d4 d5 d6).t.my,(connNew d2 d3 d4 d5 d6).t.port,nextOf ((connNew d2 d3 d4 d5 d6).s),(connNew d2 d3 d4 d5 d6).r.next,16,windowOf ((connNew d2 d3 d4 d5 d6).r),⟨0,(-1),false,false,0,0⟩,(⟨#[]⟩ : ByteArray)⟩) ww (by first | omega | exact Nat.zero_le _)) ?_
  intro _
  refine xe_tkS [31,32,33] [70,8] 10 [(70,.v (.bool (segmentOk (⟨(connNew d2 d3 d4 d5 d6).t.my,(connNew d2 d3 d4 d5 d6).t.port,nextOf ((connNew d2 d3 d4 d5 d6).s),(connNew d2 d3 d4 d5 d6).r.next,16,windowOf ((connNew d2 d3 d4 d5 d6).r),⟨0,(-1),false,false,0,0⟩,(⟨#[]⟩ : ByteArray)⟩)))),(8,.p 2 0)] (fun _ _ h => h) rfl (by kernel_rfl) ?_
  refine xe_split 70 (b := segmentOk (⟨(connNew d2 d3 d4 d5 d6).t.my,(connNew d2 d3 d4 d5 d6).t.port,nextOf ((connNew d2 d3 d4 d5 d6).s),(connNew d2 d3 d4 d5 d6).r.next,16,windowOf ((connNew d2 d3 d4 d5 d6).r),⟨0,(-1),false,false,0,0⟩,(⟨#[]⟩ : ByteArray)⟩)) (by kernel_rfl) (fun h18 => ?_) (fun h18 => ?_)
  refine xe_tkS [34] [71,70,8] 9 [(71,.v (.agg (conL (connNew d2 d3 d4 d5 d6) (.slice v8a ((connNew d2 d3 d4 d5 d6).r.held.length) v8c)).toArray)),(70,.v (.bool true)),(8,.p 2 0)] (fun _ _ h => h) rfl (by kernel_rfl) ?_
  refine xe_all [35] (by kernel_rfl) (by simp) ?_
  refine xs_call 35 26 [.agg (conL (connNew d2 d3 d4 d5 d6) (.slice v8a ((connNew d2 d3 d4 d5 d6).r.held.length) v8c)).toArray] (some 72) rfl (by kernel_rfl) rfl (by kernel_rfl) (xc_b fun ww hf => yiMssFor_c (connNew d2 d3 d4 d5 d6) (.slice v8a ((connNew d2 d3 d4 d5 d6).r.held.length) v8c) ww ) ?_
  intro _
  refine xe_tkS [36,37,38] [75,8] 5 [(75,.v (.bool (decide ((mssFor (connNew d2 d3 d4 d5 d6)) ≥ 1)))),(8,.p 2 0)] (fun _ _ h => h) rfl (by kernel_rfl) ?_
  refine xe_split 75 (b := decide ((mssFor (connNew d2 d3 d4 d5 d6)) ≥ 1)) (by kernel_rfl) (fun h19 => ?_) (fun h19 => ?_)
  have h19p : ((mssFor (connNew d2 d3 d4 d5 d6)) ≥ 1) := of_decide_eq_true h19
  refine xe_tkS [39] [76,75] 4 [(76,.v (.agg (conL (connNew d2 d3 d4 d5 d6) (.slice v8a ((connNew d2 d3 d4 d5 d6).r.held.length) v8c)).toArray)),(75,.v (.bool true))] (fun _ _ h => h) rfl (by kernel_rfl) ?_
  refine xe_all [40] (by kernel_rfl) (by simp) ?_
  refine xs_call 40 26 [.agg (conL (connNew d2 d3 d4 d5 d6) (.slice v8a ((connNew d2 d3 d4 d5 d6).r.held.length) v8c)).toArray] (some 77) rfl (by kernel_rfl) rfl (by kernel_rfl) (xc_b fun ww hf => yiMssFor_c (connNew d2 d3 d4 d5 d6) (.slice v8a ((connNew d2 d3 d4 d5 d6).r.held.length) v8c) ww ) ?_
  intro _
  refine xe_tkS [41,42,43] [2] 0 [(2,.v (.bool (decide ((mssFor (connNew d2 d3 d4 d5 d6)) ≤ 1460))))] (fun _ _ h => h) rfl (by kernel_rfl) ?_
  refine xe_done (by kernel_rfl) ?_
  exact wk_forget 4 0 [2] (by kernel_rfl) (by kernel_rfl) (by kernel_rfl)
  have h19p : ¬ ((mssFor (connNew d2 d3 d4 d5 d6)) ≥ 1) := of_decide_eq_false h19
  exfalso; have := cn_mss d2 d3 d4 d5 d6; simp at h19; omega
  exfalso; rw [cn_seg _ _ _ _ _ (by assumption)] at h18; cases h18
  have h15p := eqF h15
  exfalso; simp [cn_win] at h15
  have h14p := eqF h14
  exfalso; simp [cn_ack] at h14
  have h13p := eqF h13
  exfalso; simp [cn_seq] at h13
  have h12p := eqF h12
  exfalso; simp [cn_ok] at h12
  refine xw_ret ?_
  exact ⟨[.bool (decide ((mssFor (connNew d2 d3 d4 d5 d6)) ≤ 1460))],by kernel_rfl,fun w' hb hf => ⟨ret_bool (show (decide ((mssFor (connNew d2 d3 d4 d5 d6)) ≤ 1460) : Bool) = true from by (have e5 := cn_mss d2 d3 d4 d5 d6; simp; omega)),hb⟩⟩

set_option maxRecDepth 100000 in
theorem fnConnNew_lifted (os : Os) (started : os.Started) (H : Type) (enc : TypeId × Value → H) :
    ReturnsInHanded {} Try.checked os 5 .any (Rows.fnConnNewSpec.pre6 enc Try.prog Try.f5 Rows.fnConnNewRow.domain false) (Rows.fnConnNewSpec.post enc Try.prog Try.f5 false true false false) := by
  refine returnsInHanded_of_change (C := Try.checked) Try.ownK started (by kernel_rfl) Try.func5
    (ChangeSpec.witness6 (enc := enc) (C := Try.checked) false ⟨#[], #[.slice none 0 0], []⟩ 8 (by kernel_rfl) (by kernel_rfl) (by kernel_rfl) (by kernel_rfl)) ?_
  intro W base args ds gs before hval0 hW hcnd _
  have hval : ∀ (j : Nat) t v, Try.f5.params[j]? = some t → args[j]? = some v → Value.okWide Try.prog W .any base t v := hval0
  have hW' := hW
  obtain ⟨p, q, hA0, hV, rfl, hfz, hnd⟩ := hW
  have hA : DataW.TrodAll enc Try.prog W 0 (fun _ => true) true Try.f5.params.toList args.toList ds p := hA0
  rw [Try.params5] at hA hval
  obtain ⟨v0, vs0, d0, ds0, p0, q0, hargs, rfl, rfl, h0, r0⟩ := trodAll_cons hA
  obtain ⟨rfl, rfl, rfl⟩ := trodAll_nil r0
  obtain rfl : args = #[v0] := by cases args; simp_all
  obtain ⟨rfl, rfl⟩ := trodVars_none hV
  clear hA0 hval0
  have g0 := h0
  obtain ⟨l0, L0⟩ := openS_byte (hval 0 _ v0 rfl rfl) g0
  refine (fnConnNew_walk l0 v0 W L0).mono fun e W' ⟨he, hb⟩ => ?_
  subst he
  have hlt : ∀ x ∈ (p0 ++ ([])) ++ [], x.block < W.heap.size := fun x hx => hW'.lt x hx
  refine ⟨_, rfl, post_of_below (pa := (p0 ++ ([]))) (pv := []) hW' (fun _ _ _ => trodAll_cons_mk (shut_bool Try.underlying4 _) trodAll_mk0) (fun sp hsp => trodAll_cons_mk (WideElems.Trod_stays Try.laidOut (by kernel_rfl) (of_decide_eq_true (by kernel_rfl)) h0 (fun x hx => hb.same (hlt x (List.mem_append_left _ (List.mem_append_left _ hx)))) (fun x hx => hsp x (List.mem_append_left _ (List.mem_append_left _ hx)))) (trodAll_mk0)) (fun _ _ => rfl) rfl hb (ok_one (by kernel_rfl) rfl (okWide_bool_mk Try.underlying4 _))⟩

theorem fnConnNew_over : Rows.fnConnNewRow.holds Try.pinned (OpenSpec.ofChange Rows.fnConnNewSpec) :=
  OpenClaim.holds_of_wide 5 Try.f5 rfl rfl rfl rfl rfl rfl rfl ⟨rfl, rfl, rfl, rfl, rfl⟩ rfl rfl rfl rfl rfl (by kernel_rfl) Try.func5 (by kernel_rfl)
    (of_decide_eq_true (by kernel_rfl)) (by unfold Func.isWrapper; first | (rw [if_pos (by decide +kernel)]; kernel_rfl) | (rw [if_neg (by decide +kernel)]; exact ⟨rfl, rfl⟩))
    (fun os started H enc _ => fnConnNew_lifted os started H enc)

theorem fnConnNew_holds : Rows.FnConnNewSaid := fnConnNew_over
#print axioms fnConnNew_holds
end Go.Proofs.Ytcoppgllfipbeaa
