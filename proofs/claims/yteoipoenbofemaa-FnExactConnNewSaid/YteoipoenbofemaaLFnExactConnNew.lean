/- The law FnExactConnNew holds: for every argument the program's function answers true and leaves its arguments as they were. Conditions: none beyond the given row's. -/
import Derived.Test.YteoipoenbofemaaZ1
import Derived.Test.YteoipoenbofemaaZ1
import Derived.Test.YteoipoenbofemaaC1
namespace Go.Proofs.Yteoipoenbofemaa
open Go.RowKit Go.ChangeShapes Go.WideShapes Go.ChangeAt
set_option linter.unusedVariables false
set_option linter.unusedSimpArgs false

set_option maxRecDepth 100000 in
set_option maxHeartbeats 2000000 in
theorem fnExactConnNew_walk (t : Tup) (iss : Int) (irs : Int) (o : Opt) (window : Int) (w : World) (hi_iss : I64 iss) (hi_irs : I64 irs) (hi_window : I64 window) : Calls Try.prog 5 #[.agg (tupL t).toArray, .int .i64 iss, .int .i64 irs, .agg (optL o).toArray, .int .i64 window] w fun e w' => e = .returned (.bool true) ∧ Below w.heap.size w w' := by
  unfold I64 at hi_iss
  unfold I64 at hi_irs
  unfold I64 at hi_window
  have hb0 := connNew_bd t iss irs o window (by omega)
  refine x_calls (args := [.agg (tupL t).toArray,.int .i64 iss,.int .i64 irs,.agg (optL o).toArray,.int .i64 window]) (fn := Try.f5) [] Try.func5 rfl Try.ntmps5 rfl (by simp) ?_
  refine xw_seq ?_
  refine xw_region ?_
  refine xl_end [1,2,4,5,8] ⟨[(1,.v (.int .i64 iss)),(2,.v (.int .i64 irs)),(4,.v (.int .i64 window)),(5,.p 0 0),(8,.p 1 0)],[⟨24,tupL t⟩,⟨35,optL o⟩],[],[]⟩ (by kernel_rfl) ?_
  refine xw_seq ?_
  refine xw_joinE (α := Option Addr × Nat) (fun y => (fun (v1a : Option Addr) (v1c : Nat) => (⟨[(1,.v (.int .i64 iss)),(2,.v (.int .i64 irs)),(4,.v (.int .i64 window)),(5,.p 0 0),(8,.p 1 0),(11,.p 2 0)],[⟨24,tupL t⟩,⟨35,optL o⟩,⟨51,conL (connNew t iss irs o window) (.slice v1a ((connNew t iss irs o window).r.held.length) v1c)⟩],[],[ownF w.heap.size (.slice v1a ((connNew t iss irs o window).r.held.length) v1c) 2 ((connNew t iss irs o window).r.held.map pceCells)]⟩ : St)) y.1 y.2) ?_ ?_
  refine xe_region [] (by kernel_rfl) (fun ρ σ => ?_)
  refine xe_tkS [0,2,3,4,6] [22,20,19,18,16,1,2,4,5,8] 5 [(22,.v (.int .i64 window)),(20,.v (.agg (optL o).toArray)),(19,.v (.int .i64 irs)),(18,.v (.int .i64 iss)),(16,.v (.agg (tupL t).toArray)),(1,.v (.int .i64 iss)),(2,.v (.int .i64 irs)),(4,.v (.int .i64 window)),(5,.p 0 0),(8,.p 1 0)] (fun _ _ h => h) rfl (by kernel_rfl) ?_
  refine xe_all [1,8] (by kernel_rfl) (by simp) ⟨?_,?_⟩
  refine xs_call 1 17 [.agg (tupL t).toArray] (some 17) rfl (by kernel_rfl) rfl (by kernel_rfl) (xc_b fun ww hf => toTuple_c t.ip t.port t.my ww) ?_
  intro _
  refine xe_all [5,8] (by kernel_rfl) (by simp) ⟨?_,?_⟩
  refine xs_call 5 26 [.agg (optL o).toArray] (some 21) rfl (by kernel_rfl) rfl (by kernel_rfl) (xc_b fun ww hf => toOptions_c o.mss o.scale o.sack o.stamp o.val o.echo ww) ?_
  intro _
  refine xe_all [7,8] (by kernel_rfl) (by simp) ⟨?_,?_⟩
  refine xs_call 7 25 [.agg (tupL t).toArray,.int .i64 iss,.int .i64 irs,.agg (optL o).toArray,.int .i64 window] (some 23) rfl (by kernel_rfl) rfl (by kernel_rfl) (xc_r fun ww hw hf => ysConnNew_c t iss irs o window ww   w.heap.size hw) ?_
  rintro ⟨v1a,v1c⟩
  have hbd2 : (connNew t iss irs o window).r.held.length ≤ 1048576 := connNew_bd _ _ _ _ _  (by omega)
  refine xe_all [8] (by kernel_rfl) (by simp) ?_
  refine xs_box 8 ⟨51,conZ⟩ _ rfl (by kernel_rfl) (by kernel_rfl) (by kernel_rfl) (by kernel_rfl) rfl ?_
  refine xe_all [9] (by kernel_rfl) (by simp) ?_
  refine xs_store 9 2 0 [.int .i64 ((connNew t iss irs o window).t.ip),.int .i64 ((connNew t iss irs o window).t.port),.int .i64 ((connNew t iss irs o window).t.my),.int .i64 ((connNew t iss irs o window).state),.int .i64 ((connNew t iss irs o window).s.una),.string ((connNew t iss irs o window).s.data),.int .i64 ((connNew t iss irs o window).s.sent),.bool ((connNew t iss irs o window).s.fin),.bool ((connNew t iss irs o window).s.finSent),.bool ((connNew t iss irs o window).s.done),.int .i64 ((connNew t iss irs o window).r.next),.string ((connNew t iss irs o window).r.data),.slice v1a ((connNew t iss irs o window).r.held.length) v1c,.int .i64 ((connNew t iss irs o window).r.fin),.bool ((connNew t iss irs o window).r.done),.int .i64 ((connNew t iss irs o window).window),.int .i64 ((connNew t iss irs o window).most),.int .i64 ((connNew t iss irs o window).o.mss),.int .i64 ((connNew t iss irs o window).o.scale),.bool ((connNew t iss irs o window).o.sack),.bool ((connNew t iss irs o window).o.stamp),.int .i64 ((connNew t iss irs o window).o.val),.int .i64 ((connNew t iss irs o window).o.echo),.int .i64 ((connNew t iss irs o window).timer),.int .i64 ((connNew t iss irs o window).tries)] _ rfl (by kernel_rfl) (by kernel_rfl) (by kernel_rfl) (by kernel_rfl) (by first | exact .inr rfl | exact .inl rfl) (by kernel_rfl) rfl ?_
  refine xe_done (by kernel_rfl) ?_
  exact ⟨(v1a,v1c),wk_forget 3 0 [1,2,4,5,8,11] (by kernel_rfl) (by kernel_rfl) (by kernel_rfl)⟩
  refine xs_box 8 ⟨51,conZ⟩ _ rfl (by kernel_rfl) (by kernel_rfl) (by kernel_rfl) (by kernel_rfl) rfl ?_
  refine xe_all [7] (by kernel_rfl) (by simp) ?_
  refine xs_call 7 25 [.agg (tupL t).toArray,.int .i64 iss,.int .i64 irs,.agg (optL o).toArray,.int .i64 window] (some 23) rfl (by kernel_rfl) rfl (by kernel_rfl) (xc_r fun ww hw hf => ysConnNew_c t iss irs o window ww   w.heap.size hw) ?_
  rintro ⟨v3a,v3c⟩
  have hbd4 : (connNew t iss irs o window).r.held.length ≤ 1048576 := connNew_bd _ _ _ _ _  (by omega)
  refine xe_all [9] (by kernel_rfl) (by simp) ?_
  refine xs_store 9 2 0 [.int .i64 ((connNew t iss irs o window).t.ip),.int .i64 ((connNew t iss irs o window).t.port),.int .i64 ((connNew t iss irs o window).t.my),.int .i64 ((connNew t iss irs o window).state),.int .i64 ((connNew t iss irs o window).s.una),.string ((connNew t iss irs o window).s.data),.int .i64 ((connNew t iss irs o window).s.sent),.bool ((connNew t iss irs o window).s.fin),.bool ((connNew t iss irs o window).s.finSent),.bool ((connNew t iss irs o window).s.done),.int .i64 ((connNew t iss irs o window).r.next),.string ((connNew t iss irs o window).r.data),.slice v3a ((connNew t iss irs o window).r.held.length) v3c,.int .i64 ((connNew t iss irs o window).r.fin),.bool ((connNew t iss irs o window).r.done),.int .i64 ((connNew t iss irs o window).window),.int .i64 ((connNew t iss irs o window).most),.int .i64 ((connNew t iss irs o window).o.mss),.int .i64 ((connNew t iss irs o window).o.scale),.bool ((connNew t iss irs o window).o.sack),.bool ((connNew t iss irs o window).o.stamp),.int .i64 ((connNew t iss irs o window).o.val),.int .i64 ((connNew t iss irs o window).o.echo),.int .i64 ((connNew t iss irs o window).timer),.int .i64 ((connNew t iss irs o window).tries)] _ rfl (by kernel_rfl) (by kernel_rfl) (by kernel_rfl) (by kernel_rfl) (by first | exact .inr rfl | exact .inl rfl) (by kernel_rfl) rfl ?_
  refine xe_done (by kernel_rfl) ?_
  exact ⟨(v3a,v3c),wk_forget 3 0 [1,2,4,5,8,11] (by kernel_rfl) (by kernel_rfl) (by kernel_rfl)⟩
  refine xs_box 8 ⟨51,conZ⟩ _ rfl (by kernel_rfl) (by kernel_rfl) (by kernel_rfl) (by kernel_rfl) rfl ?_
  refine xe_all [5] (by kernel_rfl) (by simp) ?_
  refine xs_call 5 26 [.agg (optL o).toArray] (some 21) rfl (by kernel_rfl) rfl (by kernel_rfl) (xc_b fun ww hf => toOptions_c o.mss o.scale o.sack o.stamp o.val o.echo ww) ?_
  intro _
  refine xe_all [7] (by kernel_rfl) (by simp) ?_
  refine xs_call 7 25 [.agg (tupL t).toArray,.int .i64 iss,.int .i64 irs,.agg (optL o).toArray,.int .i64 window] (some 23) rfl (by kernel_rfl) rfl (by kernel_rfl) (xc_r fun ww hw hf => ysConnNew_c t iss irs o window ww   w.heap.size hw) ?_
  rintro ⟨v5a,v5c⟩
  have hbd6 : (connNew t iss irs o window).r.held.length ≤ 1048576 := connNew_bd _ _ _ _ _  (by omega)
  refine xe_all [9] (by kernel_rfl) (by simp) ?_
  refine xs_store 9 2 0 [.int .i64 ((connNew t iss irs o window).t.ip),.int .i64 ((connNew t iss irs o window).t.port),.int .i64 ((connNew t iss irs o window).t.my),.int .i64 ((connNew t iss irs o window).state),.int .i64 ((connNew t iss irs o window).s.una),.string ((connNew t iss irs o window).s.data),.int .i64 ((connNew t iss irs o window).s.sent),.bool ((connNew t iss irs o window).s.fin),.bool ((connNew t iss irs o window).s.finSent),.bool ((connNew t iss irs o window).s.done),.int .i64 ((connNew t iss irs o window).r.next),.string ((connNew t iss irs o window).r.data),.slice v5a ((connNew t iss irs o window).r.held.length) v5c,.int .i64 ((connNew t iss irs o window).r.fin),.bool ((connNew t iss irs o window).r.done),.int .i64 ((connNew t iss irs o window).window),.int .i64 ((connNew t iss irs o window).most),.int .i64 ((connNew t iss irs o window).o.mss),.int .i64 ((connNew t iss irs o window).o.scale),.bool ((connNew t iss irs o window).o.sack),.bool ((connNew t iss irs o window).o.stamp),.int .i64 ((connNew t iss irs o window).o.val),.int .i64 ((connNew t iss irs o window).o.echo),.int .i64 ((connNew t iss irs o window).timer),.int .i64 ((connNew t iss irs o window).tries)] _ rfl (by kernel_rfl) (by kernel_rfl) (by kernel_rfl) (by kernel_rfl) (by first | exact .inr rfl | exact .inl rfl) (by kernel_rfl) rfl ?_
  refine xe_done (by kernel_rfl) ?_
  exact ⟨(v5a,v5c),wk_forget 3 0 [1,2,4,5,8,11] (by kernel_rfl) (by kernel_rfl) (by kernel_rfl)⟩
  refine xs_box 8 ⟨51,conZ⟩ _ rfl (by kernel_rfl) (by kernel_rfl) (by kernel_rfl) (by kernel_rfl) rfl ?_
  refine xe_all [1] (by kernel_rfl) (by simp) ?_
  refine xs_call 1 17 [.agg (tupL t).toArray] (some 17) rfl (by kernel_rfl) rfl (by kernel_rfl) (xc_b fun ww hf => toTuple_c t.ip t.port t.my ww) ?_
  intro _
  refine xe_all [5] (by kernel_rfl) (by simp) ?_
  refine xs_call 5 26 [.agg (optL o).toArray] (some 21) rfl (by kernel_rfl) rfl (by kernel_rfl) (xc_b fun ww hf => toOptions_c o.mss o.scale o.sack o.stamp o.val o.echo ww) ?_
  intro _
  refine xe_all [7] (by kernel_rfl) (by simp) ?_
  refine xs_call 7 25 [.agg (tupL t).toArray,.int .i64 iss,.int .i64 irs,.agg (optL o).toArray,.int .i64 window] (some 23) rfl (by kernel_rfl) rfl (by kernel_rfl) (xc_r fun ww hw hf => ysConnNew_c t iss irs o window ww   w.heap.size hw) ?_
  rintro ⟨v7a,v7c⟩
  have hbd8 : (connNew t iss irs o window).r.held.length ≤ 1048576 := connNew_bd _ _ _ _ _  (by omega)
  refine xe_all [9] (by kernel_rfl) (by simp) ?_
  refine xs_store 9 2 0 [.int .i64 ((connNew t iss irs o window).t.ip),.int .i64 ((connNew t iss irs o window).t.port),.int .i64 ((connNew t iss irs o window).t.my),.int .i64 ((connNew t iss irs o window).state),.int .i64 ((connNew t iss irs o window).s.una),.string ((connNew t iss irs o window).s.data),.int .i64 ((connNew t iss irs o window).s.sent),.bool ((connNew t iss irs o window).s.fin),.bool ((connNew t iss irs o window).s.finSent),.bool ((connNew t iss irs o window).s.done),.int .i64 ((connNew t iss irs o window).r.next),.string ((connNew t iss irs o window).r.data),.slice v7a ((connNew t iss irs o window).r.held.length) v7c,.int .i64 ((connNew t iss irs o window).r.fin),.bool ((connNew t iss irs o window).r.done),.int .i64 ((connNew t iss irs o window).window),.int .i64 ((connNew t iss irs o window).most),.int .i64 ((connNew t iss irs o window).o.mss),.int .i64 ((connNew t iss irs o window).o.scale),.bool ((connNew t iss irs o window).o.sack),.bool ((connNew t iss irs o window).o.stamp),.int .i64 ((connNew t iss irs o window).o.val),.int .i64 ((connNew t iss irs o window).o.echo),.int .i64 ((connNew t iss irs o window).timer),.int .i64 ((connNew t iss irs o window).tries)] _ rfl (by kernel_rfl) (by kernel_rfl) (by kernel_rfl) (by kernel_rfl) (by first | exact .inr rfl | exact .inl rfl) (by kernel_rfl) rfl ?_
  refine xe_done (by kernel_rfl) ?_
  exact ⟨(v7a,v7c),wk_forget 3 0 [1,2,4,5,8,11] (by kernel_rfl) (by kernel_rfl) (by kernel_rfl)⟩
  rintro ⟨v1a,v1c⟩
  refine xw_seq ?_
  refine xw_joinE (α := Option Addr × Nat) (fun y => (fun (v9a : Option Addr) (v9c : Nat) => (⟨[(1,.v (.int .i64 iss)),(2,.v (.int .i64 irs)),(4,.v (.int .i64 window)),(5,.p 0 0),(8,.p 1 0),(11,.p 2 0),(12,.p 3 0)],[⟨24,tupL t⟩,⟨35,optL o⟩,⟨51,conL (connNew t iss irs o window) (.slice v1a ((connNew t iss irs o window).r.held.length) v1c)⟩,⟨51,conL (connNew t iss irs o window) (.slice v9a ((connNew t iss irs o window).r.held.length) v9c)⟩],[],[ownF w.heap.size (.slice v9a ((connNew t iss irs o window).r.held.length) v9c) 2 ((connNew t iss irs o window).r.held.map pceCells),ownF w.heap.size (.slice v1a ((connNew t iss irs o window).r.held.length) v1c) 2 ((connNew t iss irs o window).r.held.map pceCells)]⟩ : St)) y.1 y.2) ?_ ?_
  refine xe_region [] (by kernel_rfl) (fun ρ σ => ?_)
  refine xe_tk [0,2,3,4,6] [30,28,27,26,24,1,2,4,5,8,11] 5 ⟨[(30,.v (.int .i64 window)),(28,.v (.agg (optL o).toArray)),(27,.v (.int .i64 irs)),(26,.v (.int .i64 iss)),(24,.v (.agg (tupL t).toArray)),(1,.v (.int .i64 iss)),(2,.v (.int .i64 irs)),(4,.v (.int .i64 window)),(5,.p 0 0),(8,.p 1 0),(11,.p 2 0)],[⟨24,tupL t⟩,⟨35,optL o⟩,⟨51,conL (connNew t iss irs o window) (.slice v1a ((connNew t iss irs o window).r.held.length) v1c)⟩],[],[ownF w.heap.size (.slice v1a ((connNew t iss irs o window).r.held.length) v1c) 2 ((connNew t iss irs o window).r.held.map pceCells)]⟩ (fun _ _ h => h) rfl (by kernel_rfl) ?_
  refine xe_all [1,8] (by kernel_rfl) (by simp) ⟨?_,?_⟩
  refine xs_call 1 17 [.agg (tupL t).toArray] (some 25) rfl (by kernel_rfl) rfl (by kernel_rfl) (xc_b fun ww hf => toTuple_c t.ip t.port t.my ww) ?_
  intro _
  refine xe_all [5,8] (by kernel_rfl) (by simp) ⟨?_,?_⟩
  refine xs_call 5 26 [.agg (optL o).toArray] (some 29) rfl (by kernel_rfl) rfl (by kernel_rfl) (xc_b fun ww hf => toOptions_c o.mss o.scale o.sack o.stamp o.val o.echo ww) ?_
  intro _
  refine xe_all [7,8] (by kernel_rfl) (by simp) ⟨?_,?_⟩
  refine xs_call 7 27 [.agg (tupL t).toArray,.int .i64 iss,.int .i64 irs,.agg (optL o).toArray,.int .i64 window] (some 31) rfl (by kernel_rfl) rfl (by kernel_rfl) (xc_r fun ww hw hf => yiConnNew_c t iss irs o window ww   w.heap.size hw) ?_
  rintro ⟨v9a,v9c⟩
  have hbd10 : (connNew t iss irs o window).r.held.length ≤ 1048576 := connNew_bd _ _ _ _ _  (by omega)
  refine xe_all [8] (by kernel_rfl) (by simp) ?_
  refine xs_box 8 ⟨51,conZ⟩ _ rfl (by kernel_rfl) (by kernel_rfl) (by kernel_rfl) (by kernel_rfl) rfl ?_
  refine xe_all [9] (by kernel_rfl) (by simp) ?_
  refine xs_store 9 3 0 [.int .i64 ((connNew t iss irs o window).t.ip),.int .i64 ((connNew t iss irs o window).t.port),.int .i64 ((connNew t iss irs o window).t.my),.int .i64 ((connNew t iss irs o window).state),.int .i64 ((connNew t iss irs o window).s.una),.string ((connNew t iss irs o window).s.data),.int .i64 ((connNew t iss irs o window).s.sent),.bool ((connNew t iss irs o window).s.fin),.bool ((connNew t iss irs o window).s.finSent),.bool ((connNew t iss irs o window).s.done),.int .i64 ((connNew t iss irs o window).r.next),.string ((connNew t iss irs o window).r.data),.slice v9a ((connNew t iss irs o window).r.held.length) v9c,.int .i64 ((connNew t iss irs o window).r.fin),.bool ((connNew t iss irs o window).r.done),.int .i64 ((connNew t iss irs o window).window),.int .i64 ((connNew t iss irs o window).most),.int .i64 ((connNew t iss irs o window).o.mss),.int .i64 ((connNew t iss irs o window).o.scale),.bool ((connNew t iss irs o window).o.sack),.bool ((connNew t iss irs o window).o.stamp),.int .i64 ((connNew t iss irs o window).o.val),.int .i64 ((connNew t iss irs o window).o.echo),.int .i64 ((connNew t iss irs o window).timer),.int .i64 ((connNew t iss irs o window).tries)] _ rfl (by kernel_rfl) (by kernel_rfl) (by kernel_rfl) (by kernel_rfl) (by first | exact .inr rfl | exact .inl rfl) (by kernel_rfl) rfl ?_
  refine xe_done (by kernel_rfl) ?_
  exact ⟨(v9a,v9c),wk_forget 4 0 [1,2,4,5,8,11,12] (by kernel_rfl) (by kernel_rfl) (by kernel_rfl)⟩
  refine xs_box 8 ⟨51,conZ⟩ _ rfl (by kernel_rfl) (by kernel_rfl) (by kernel_rfl) (by kernel_rfl) rfl ?_
  refine xe_all [7] (by kernel_rfl) (by simp) ?_
  refine xs_call 7 27 [.agg (tupL t).toArray,.int .i64 iss,.int .i64 irs,.agg (optL o).toArray,.int .i64 window] (some 31) rfl (by kernel_rfl) rfl (by kernel_rfl) (xc_r fun ww hw hf => yiConnNew_c t iss irs o window ww   w.heap.size hw) ?_
  rintro ⟨v11a,v11c⟩
  have hbd12 : (connNew t iss irs o window).r.held.length ≤ 1048576 := connNew_bd _ _ _ _ _  (by omega)
  refine xe_all [9] (by kernel_rfl) (by simp) ?_
  refine xs_store 9 3 0 [.int .i64 ((connNew t iss irs o window).t.ip),.int .i64 ((connNew t iss irs o window).t.port),.int .i64 ((connNew t iss irs o window).t.my),.int .i64 ((connNew t iss irs o window).state),.int .i64 ((connNew t iss irs o window).s.una),.string ((connNew t iss irs o window).s.data),.int .i64 ((connNew t iss irs o window).s.sent),.bool ((connNew t iss irs o window).s.fin),.bool ((connNew t iss irs o window).s.finSent),.bool ((connNew t iss irs o window).s.done),.int .i64 ((connNew t iss irs o window).r.next),.string ((connNew t iss irs o window).r.data),.slice v11a ((connNew t iss irs o window).r.held.length) v11c,.int .i64 ((connNew t iss irs o window).r.fin),.bool ((connNew t iss irs o window).r.done),.int .i64 ((connNew t iss irs o window).window),.int .i64 ((connNew t iss irs o window).most),.int .i64 ((connNew t iss irs o window).o.mss),.int .i64 ((connNew t iss irs o window).o.scale),.bool ((connNew t iss irs o window).o.sack),.bool ((connNew t iss irs o window).o.stamp),.int .i64 ((connNew t iss irs o window).o.val),.int .i64 ((connNew t iss irs o window).o.echo),.int .i64 ((connNew t iss irs o window).timer),.int .i64 ((connNew t iss irs o window).tries)] _ rfl (by kernel_rfl) (by kernel_rfl) (by kernel_rfl) (by kernel_rfl) (by first | exact .inr rfl | exact .inl rfl) (by kernel_rfl) rfl ?_
  refine xe_done (by kernel_rfl) ?_
  exact ⟨(v11a,v11c),wk_forget 4 0 [1,2,4,5,8,11,12] (by kernel_rfl) (by kernel_rfl) (by kernel_rfl)⟩
  refine xs_box 8 ⟨51,conZ⟩ _ rfl (by kernel_rfl) (by kernel_rfl) (by kernel_rfl) (by kernel_rfl) rfl ?_
  refine xe_all [5] (by kernel_rfl) (by simp) ?_
  refine xs_call 5 26 [.agg (optL o).toArray] (some 29) rfl (by kernel_rfl) rfl (by kernel_rfl) (xc_b fun ww hf => toOptions_c o.mss o.scale o.sack o.stamp o.val o.echo ww) ?_
  intro _
  refine xe_all [7] (by kernel_rfl) (by simp) ?_
  refine xs_call 7 27 [.agg (tupL t).toArray,.int .i64 iss,.int .i64 irs,.agg (optL o).toArray,.int .i64 window] (some 31) rfl (by kernel_rfl) rfl (by kernel_rfl) (xc_r fun ww hw hf => yiConnNew_c t iss irs o window ww   w.heap.size hw) ?_
  rintro ⟨v13a,v13c⟩
  have hbd14 : (connNew t iss irs o window).r.held.length ≤ 1048576 := connNew_bd _ _ _ _ _  (by omega)
  refine xe_all [9] (by kernel_rfl) (by simp) ?_
  refine xs_store 9 3 0 [.int .i64 ((connNew t iss irs o window).t.ip),.int .i64 ((connNew t iss irs o window).t.port),.int .i64 ((connNew t iss irs o window).t.my),.int .i64 ((connNew t iss irs o window).state),.int .i64 ((connNew t iss irs o window).s.una),.string ((connNew t iss irs o window).s.data),.int .i64 ((connNew t iss irs o window).s.sent),.bool ((connNew t iss irs o window).s.fin),.bool ((connNew t iss irs o window).s.finSent),.bool ((connNew t iss irs o window).s.done),.int .i64 ((connNew t iss irs o window).r.next),.string ((connNew t iss irs o window).r.data),.slice v13a ((connNew t iss irs o window).r.held.length) v13c,.int .i64 ((connNew t iss irs o window).r.fin),.bool ((connNew t iss irs o window).r.done),.int .i64 ((connNew t iss irs o window).window),.int .i64 ((connNew t iss irs o window).most),.int .i64 ((connNew t iss irs o window).o.mss),.int .i64 ((connNew t iss irs o window).o.scale),.bool ((connNew t iss irs o window).o.sack),.bool ((connNew t iss irs o window).o.stamp),.int .i64 ((connNew t iss irs o window).o.val),.int .i64 ((connNew t iss irs o window).o.echo),.int .i64 ((connNew t iss irs o window).timer),.int .i64 ((connNew t iss irs o window).tries)] _ rfl (by kernel_rfl) (by kernel_rfl) (by kernel_rfl) (by kernel_rfl) (by first | exact .inr rfl | exact .inl rfl) (by kernel_rfl) rfl ?_
  refine xe_done (by kernel_rfl) ?_
  exact ⟨(v13a,v13c),wk_forget 4 0 [1,2,4,5,8,11,12] (by kernel_rfl) (by kernel_rfl) (by kernel_rfl)⟩
  refine xs_box 8 ⟨51,conZ⟩ _ rfl (by kernel_rfl) (by kernel_rfl) (by kernel_rfl) (by kernel_rfl) rfl ?_
  refine xe_all [1] (by kernel_rfl) (by simp) ?_
  refine xs_call 1 17 [.agg (tupL t).toArray] (some 25) rfl (by kernel_rfl) rfl (by kernel_rfl) (xc_b fun ww hf => toTuple_c t.ip t.port t.my ww) ?_
  intro _
  refine xe_all [5] (by kernel_rfl) (by simp) ?_
  refine xs_call 5 26 [.agg (optL o).toArray] (some 29) rfl (by kernel_rfl) rfl (by kernel_rfl) (xc_b fun ww hf => toOptions_c o.mss o.scale o.sack o.stamp o.val o.echo ww) ?_
  intro _
  refine xe_all [7] (by kernel_rfl) (by simp) ?_
  refine xs_call 7 27 [.agg (tupL t).toArray,.int .i64 iss,.int .i64 irs,.agg (optL o).toArray,.int .i64 window] (some 31) rfl (by kernel_rfl) rfl (by kernel_rfl) (xc_r fun ww hw hf => yiConnNew_c t iss irs o window ww   w.heap.size hw) ?_
  rintro ⟨v15a,v15c⟩
  have hbd16 : (connNew t iss irs o window).r.held.length ≤ 1048576 := connNew_bd _ _ _ _ _  (by omega)
  refine xe_all [9] (by kernel_rfl) (by simp) ?_
  refine xs_store 9 3 0 [.int .i64 ((connNew t iss irs o window).t.ip),.int .i64 ((connNew t iss irs o window).t.port),.int .i64 ((connNew t iss irs o window).t.my),.int .i64 ((connNew t iss irs o window).state),.int .i64 ((connNew t iss irs o window).s.una),.string ((connNew t iss irs o window).s.data),.int .i64 ((connNew t iss irs o window).s.sent),.bool ((connNew t iss irs o window).s.fin),.bool ((connNew t iss irs o window).s.finSent),.bool ((connNew t iss irs o window).s.done),.int .i64 ((connNew t iss irs o window).r.next),.string ((connNew t iss irs o window).r.data),.slice v15a ((connNew t iss irs o window).r.held.length) v15c,.int .i64 ((connNew t iss irs o window).r.fin),.bool ((connNew t iss irs o window).r.done),.int .i64 ((connNew t iss irs o window).window),.int .i64 ((connNew t iss irs o window).most),.int .i64 ((connNew t iss irs o window).o.mss),.int .i64 ((connNew t iss irs o window).o.scale),.bool ((connNew t iss irs o window).o.sack),.bool ((connNew t iss irs o window).o.stamp),.int .i64 ((connNew t iss irs o window).o.val),.int .i64 ((connNew t iss irs o window).o.echo),.int .i64 ((connNew t iss irs o window).timer),.int .i64 ((connNew t iss irs o window).tries)] _ rfl (by kernel_rfl) (by kernel_rfl) (by kernel_rfl) (by kernel_rfl) (by first | exact .inr rfl | exact .inl rfl) (by kernel_rfl) rfl ?_
  refine xe_done (by kernel_rfl) ?_
  exact ⟨(v15a,v15c),wk_forget 4 0 [1,2,4,5,8,11,12] (by kernel_rfl) (by kernel_rfl) (by kernel_rfl)⟩
  rintro ⟨v9a,v9c⟩
  refine xw_seq ?_
  refine xw_seq ?_
  refine xw_region ?_
  refine xl_call 2 [1,2,4,5,8,11,12,32,33] ⟨[(1,.v (.int .i64 iss)),(2,.v (.int .i64 irs)),(4,.v (.int .i64 window)),(5,.p 0 0),(8,.p 1 0),(11,.p 2 0),(12,.p 3 0),(32,.v (.agg (conL (connNew t iss irs o window) (.slice v9a ((connNew t iss irs o window).r.held.length) v9c)).toArray)),(33,.v (.agg (conL (connNew t iss irs o window) (.slice v1a ((connNew t iss irs o window).r.held.length) v1c)).toArray))],[⟨24,tupL t⟩,⟨35,optL o⟩,⟨51,conL (connNew t iss irs o window) (.slice v1a ((connNew t iss irs o window).r.held.length) v1c)⟩,⟨51,conL (connNew t iss irs o window) (.slice v9a ((connNew t iss irs o window).r.held.length) v9c)⟩],[],[ownF w.heap.size (.slice v9a ((connNew t iss irs o window).r.held.length) v9c) 2 ((connNew t iss irs o window).r.held.map pceCells),ownF w.heap.size (.slice v1a ((connNew t iss irs o window).r.held.length) v1c) 2 ((connNew t iss irs o window).r.held.map pceCells)]⟩ 28 [.agg (conL (connNew t iss irs o window) (.slice v9a ((connNew t iss irs o window).r.held.length) v9c)).toArray,.agg (conL (connNew t iss irs o window) (.slice v1a ((connNew t iss irs o window).r.held.length) v1c)).toArray] (some 34) (by kernel_rfl) rfl (by kernel_rfl) rfl (by kernel_rfl) (xc_b fun ww hf => eqConn_c ((connNew t iss irs o window).t.ip) ((connNew t iss irs o window).t.port) ((connNew t iss irs o window).t.my) ((connNew t iss irs o window).state) ((connNew t iss irs o window).s.una) ((connNew t iss irs o window).s.data) ((connNew t iss irs o window).s.sent) ((connNew t iss irs o window).s.fin) ((connNew t iss irs o window).s.finSent) ((connNew t iss irs o window).s.done) ((connNew t iss irs o window).r.next) ((connNew t iss irs o window).r.data) ((connNew t iss irs o window).r.held) (.slice v9a ((connNew t iss irs o window).r.held.length) v9c) ((connNew t iss irs o window).r.fin) ((connNew t iss irs o window).r.done) ((connNew t iss irs o window).window) ((connNew t iss irs o window).most) ((connNew t iss irs o window).o.mss) ((connNew t iss irs o window).o.scale) ((connNew t iss irs o window).o.sack) ((connNew t iss irs o window).o.stamp) ((connNew t iss irs o window).o.val) ((connNew t iss irs o window).o.echo) ((connNew t iss irs o window).timer) ((connNew t iss irs o window).tries) (.slice v1a ((connNew t iss irs o window).r.held.length) v1c) ww (Own.sl (hf (ownF w.heap.size (.slice v9a ((connNew t iss irs o window).r.held.length) v9c) 2 ((connNew t iss irs o window).r.held.map pceCells)) (by simp))) (Own.sl (hf (ownF w.heap.size (.slice v1a ((connNew t iss irs o window).r.held.length) v1c) 2 ((connNew t iss irs o window).r.held.map pceCells)) (by simp)))) ?_
  intro _
  refine xl_endS [1,2,4,5,8,11,12,35] [(1,.v (.int .i64 iss)),(2,.v (.int .i64 irs)),(4,.v (.int .i64 window)),(5,.p 0 0),(8,.p 1 0),(11,.p 2 0),(12,.p 3 0),(35,.v (.bool false))] (by kernel_rfl) ?_
  refine xw_false (by kernel_rfl) ?_
  refine xw_skip ?_
  refine xw_seq ?_
  refine xw_region ?_
  refine xl_endS [1,2,4,5,8,11,12,13] [(1,.v (.int .i64 iss)),(2,.v (.int .i64 irs)),(4,.v (.int .i64 window)),(5,.p 0 0),(8,.p 1 0),(11,.p 2 0),(12,.p 3 0),(13,.v (.int .i64 1))] (by kernel_rfl) ?_
  refine xw_seq ?_
  refine xw_region ?_
  refine xl_callWS 2 [1,2,4,5,8,11,12,13,36,37] [(1,.v (.int .i64 iss)),(2,.v (.int .i64 irs)),(4,.v (.int .i64 window)),(5,.p 0 0),(8,.p 1 0),(11,.p 2 0),(12,.p 3 0),(13,.v (.int .i64 1)),(36,.v (.agg (conL (connNew t iss irs o window) (.slice v9a ((connNew t iss irs o window).r.held.length) v9c)).toArray)),(37,.v (.int .i64 1))] 29 [.agg (conL (connNew t iss irs o window) (.slice v9a ((connNew t iss irs o window).r.held.length) v9c)).toArray,.int .i64 1] (some 38) 0 (ownF w.heap.size (.slice v9a ((connNew t iss irs o window).r.held.length) v9c) 2 ((connNew t iss irs o window).r.held.map pceCells)) (by kernel_rfl) rfl (by kernel_rfl) rfl (by kernel_rfl) rfl rfl (fun ww b h hb => vblk_lo h hb) (by kernel_rfl) (xcm_own marks_ne fun ww hw hf => ymarkConn_c (connNew t iss irs o window) (.slice v9a ((connNew t iss irs o window).r.held.length) v9c) 1 ww w.heap.size hw (hf (ownF w.heap.size (.slice v9a ((connNew t iss irs o window).r.held.length) v9c) 2 ((connNew t iss irs o window).r.held.map pceCells)) (by simp)) (by omega) (by omega) (by omega)) ?_
  intro _
  refine xl_endS [1,2,4,5,8,11,12,13] [(1,.v (.int .i64 iss)),(2,.v (.int .i64 irs)),(4,.v (.int .i64 window)),(5,.p 0 0),(8,.p 1 0),(11,.p 2 0),(12,.p 3 0),(13,.v (.int .i64 (1 + 2 * (((connNew t iss irs o window).r.held).length : Int))))] (by kernel_rfl) ?_
  refine xw_seq ?_
  refine xw_region ?_
  refine xl_endS [1,2,4,5,8,11,12,13,14] [(1,.v (.int .i64 iss)),(2,.v (.int .i64 irs)),(4,.v (.int .i64 window)),(5,.p 0 0),(8,.p 1 0),(11,.p 2 0),(12,.p 3 0),(13,.v (.int .i64 (1 + 2 * (((connNew t iss irs o window).r.held).length : Int)))),(14,.v (.int .i64 1))] (by kernel_rfl) ?_
  refine xw_seq ?_
  refine xw_region ?_
  refine xl_callS 2 [1,2,4,5,8,11,12,13,14,39,40] [(1,.v (.int .i64 iss)),(2,.v (.int .i64 irs)),(4,.v (.int .i64 window)),(5,.p 0 0),(8,.p 1 0),(11,.p 2 0),(12,.p 3 0),(13,.v (.int .i64 (1 + 2 * (((connNew t iss irs o window).r.held).length : Int)))),(14,.v (.int .i64 1)),(39,.v (.agg (conL { (connNew t iss irs o window) with r := { (connNew t iss irs o window).r with held := (marks mkP 2 1 ((connNew t iss irs o window).r.held).length) } } (.slice v9a ((connNew t iss irs o window).r.held.length) v9c)).toArray)),(40,.v (.int .i64 1))] 30 [.agg (conL { (connNew t iss irs o window) with r := { (connNew t iss irs o window).r with held := (marks mkP 2 1 ((connNew t iss irs o window).r.held).length) } } (.slice v9a ((connNew t iss irs o window).r.held.length) v9c)).toArray,.int .i64 1] (some 41) (by kernel_rfl) rfl (by kernel_rfl) rfl (by kernel_rfl) (xc_b fun ww hf => yheldConn_m ((connNew t iss irs o window).r.held).length ((connNew t iss irs o window).t.ip) ((connNew t iss irs o window).t.port) ((connNew t iss irs o window).t.my) ((connNew t iss irs o window).state) ((connNew t iss irs o window).s.una) ((connNew t iss irs o window).s.data) ((connNew t iss irs o window).s.sent) ((connNew t iss irs o window).s.fin) ((connNew t iss irs o window).s.finSent) ((connNew t iss irs o window).s.done) ((connNew t iss irs o window).r.next) ((connNew t iss irs o window).r.data) ((connNew t iss irs o window).r.fin) ((connNew t iss irs o window).r.done) ((connNew t iss irs o window).window) ((connNew t iss irs o window).most) ((connNew t iss irs o window).o.mss) ((connNew t iss irs o window).o.scale) ((connNew t iss irs o window).o.sack) ((connNew t iss irs o window).o.stamp) ((connNew t iss irs o window).o.val) ((connNew t iss irs o window).o.echo) ((connNew t iss irs o window).timer) ((connNew t iss irs o window).tries) (.slice v9a ((connNew t iss irs o window).r.held.length) v9c) 1 ww (Own.sl (hf (ownF w.heap.size (.slice v9a ((connNew t iss irs o window).r.held.length) v9c) 2 ((marks mkP 2 1 ((connNew t iss irs o window).r.held).length).map pceCells)) (by simp))) (by omega) (by omega) (by omega)) ?_
  intro _
  refine xl_endS [1,2,4,5,8,11,12,13,14] [(1,.v (.int .i64 iss)),(2,.v (.int .i64 irs)),(4,.v (.int .i64 window)),(5,.p 0 0),(8,.p 1 0),(11,.p 2 0),(12,.p 3 0),(13,.v (.int .i64 (1 + 2 * (((connNew t iss irs o window).r.held).length : Int)))),(14,.v (.int .i64 (1 + 2 * (((connNew t iss irs o window).r.held).length : Int))))] (by kernel_rfl) ?_
  refine xw_seq ?_
  refine xw_seq ?_
  refine xw_region ?_
  refine xl_endS [1,2,4,5,8,11,12,13,14,43] [(1,.v (.int .i64 iss)),(2,.v (.int .i64 irs)),(4,.v (.int .i64 window)),(5,.p 0 0),(8,.p 1 0),(11,.p 2 0),(12,.p 3 0),(13,.v (.int .i64 (1 + 2 * (((connNew t iss irs o window).r.held).length : Int)))),(14,.v (.int .i64 (1 + 2 * (((connNew t iss irs o window).r.held).length : Int)))),(43,.v (.bool (decide ((1 + 2 * (((connNew t iss irs o window).r.held).length : Int)) < 0))))] (by kernel_rfl) ?_
  refine xw_cond (b := decide ((1 + 2 * (((connNew t iss irs o window).r.held).length : Int)) < 0)) (by kernel_rfl) (fun h17 => ?_) (fun h17 => ?_)
  have h17p : ((1 + 2 * (((connNew t iss irs o window).r.held).length : Int)) < 0) := of_decide_eq_true h17
  exfalso; have := of_decide_eq_true h17; omega
  have h17p : ¬ ((1 + 2 * (((connNew t iss irs o window).r.held).length : Int)) < 0) := of_decide_eq_false h17
  refine xw_skip ?_
  refine xw_seq ?_
  refine xw_seq ?_
  refine xw_region ?_
  refine xl_endS [1,2,4,5,8,11,12,13,46] [(1,.v (.int .i64 iss)),(2,.v (.int .i64 irs)),(4,.v (.int .i64 window)),(5,.p 0 0),(8,.p 1 0),(11,.p 2 0),(12,.p 3 0),(13,.v (.int .i64 (1 + 2 * (((connNew t iss irs o window).r.held).length : Int)))),(46,.v (.bool ((1 + 2 * (((connNew t iss irs o window).r.held).length : Int)) != (1 + 2 * (((connNew t iss irs o window).r.held).length : Int)))))] (by kernel_rfl) ?_
  refine xw_cond (b := (1 + 2 * (((connNew t iss irs o window).r.held).length : Int)) != (1 + 2 * (((connNew t iss irs o window).r.held).length : Int))) (by kernel_rfl) (fun h18 => ?_) (fun h18 => ?_)
  simp at h18
  have h18p := neF h18
  refine xw_skip ?_
  refine xw_seq ?_
  refine xw_joinE (α := Option Addr × Nat) (fun y => (fun (v19a : Option Addr) (v19c : Nat) => (⟨[(11,.p 2 0),(12,.p 3 0),(13,.v (.int .i64 (1 + 2 * (((connNew t iss irs o window).r.held).length : Int)))),(15,.p 4 0)],[⟨24,tupL t⟩,⟨35,optL o⟩,⟨51,conL (connNew t iss irs o window) (.slice v1a ((connNew t iss irs o window).r.held.length) v1c)⟩,⟨51,conL { (connNew t iss irs o window) with r := { (connNew t iss irs o window).r with held := (marks mkP 2 1 ((connNew t iss irs o window).r.held).length) } } (.slice v9a ((connNew t iss irs o window).r.held.length) v9c)⟩,⟨51,conL (connNew t iss irs o window) (.slice v19a ((connNew t iss irs o window).r.held.length) v19c)⟩],[],[ownF w.heap.size (.slice v19a ((connNew t iss irs o window).r.held.length) v19c) 2 ((connNew t iss irs o window).r.held.map pceCells),ownF w.heap.size (.slice v9a ((connNew t iss irs o window).r.held.length) v9c) 2 ((marks mkP 2 1 ((connNew t iss irs o window).r.held).length).map pceCells),ownF w.heap.size (.slice v1a ((connNew t iss irs o window).r.held.length) v1c) 2 ((connNew t iss irs o window).r.held.map pceCells)]⟩ : St)) y.1 y.2) ?_ ?_
  refine xe_region [] (by kernel_rfl) (fun ρ σ => ?_)
  refine xe_tkS [0,2,3,4,6] [53,51,50,49,47,11,12,13] 5 [(53,.v (.int .i64 window)),(51,.v (.agg (optL o).toArray)),(50,.v (.int .i64 irs)),(49,.v (.int .i64 iss)),(47,.v (.agg (tupL t).toArray)),(11,.p 2 0),(12,.p 3 0),(13,.v (.int .i64 (1 + 2 * (((connNew t iss irs o window).r.held).length : Int))))] (fun _ _ h => h) rfl (by kernel_rfl) ?_
  refine xe_all [1,8] (by kernel_rfl) (by simp) ⟨?_,?_⟩
  refine xs_call 1 17 [.agg (tupL t).toArray] (some 48) rfl (by kernel_rfl) rfl (by kernel_rfl) (xc_b fun ww hf => toTuple_c t.ip t.port t.my ww) ?_
  intro _
  refine xe_all [5,8] (by kernel_rfl) (by simp) ⟨?_,?_⟩
  refine xs_call 5 26 [.agg (optL o).toArray] (some 52) rfl (by kernel_rfl) rfl (by kernel_rfl) (xc_b fun ww hf => toOptions_c o.mss o.scale o.sack o.stamp o.val o.echo ww) ?_
  intro _
  refine xe_all [7,8] (by kernel_rfl) (by simp) ⟨?_,?_⟩
  refine xs_call 7 27 [.agg (tupL t).toArray,.int .i64 iss,.int .i64 irs,.agg (optL o).toArray,.int .i64 window] (some 54) rfl (by kernel_rfl) rfl (by kernel_rfl) (xc_r fun ww hw hf => yiConnNew_c t iss irs o window ww   w.heap.size hw) ?_
  rintro ⟨v19a,v19c⟩
  have hbd20 : (connNew t iss irs o window).r.held.length ≤ 1048576 := connNew_bd _ _ _ _ _  (by omega)
  refine xe_all [8] (by kernel_rfl) (by simp) ?_
  refine xs_box 8 ⟨51,conZ⟩ _ rfl (by kernel_rfl) (by kernel_rfl) (by kernel_rfl) (by kernel_rfl) rfl ?_
  refine xe_all [9] (by kernel_rfl) (by simp) ?_
  refine xs_store 9 4 0 [.int .i64 ((connNew t iss irs o window).t.ip),.int .i64 ((connNew t iss irs o window).t.port),.int .i64 ((connNew t iss irs o window).t.my),.int .i64 ((connNew t iss irs o window).state),.int .i64 ((connNew t iss irs o window).s.una),.string ((connNew t iss irs o window).s.data),.int .i64 ((connNew t iss irs o window).s.sent),.bool ((connNew t iss irs o window).s.fin),.bool ((connNew t iss irs o window).s.finSent),.bool ((connNew t iss irs o window).s.done),.int .i64 ((connNew t iss irs o window).r.next),.string ((connNew t iss irs o window).r.data),.slice v19a ((connNew t iss irs o window).r.held.length) v19c,.int .i64 ((connNew t iss irs o window).r.fin),.bool ((connNew t iss irs o window).r.done),.int .i64 ((connNew t iss irs o window).window),.int .i64 ((connNew t iss irs o window).most),.int .i64 ((connNew t iss irs o window).o.mss),.int .i64 ((connNew t iss irs o window).o.scale),.bool ((connNew t iss irs o window).o.sack),.bool ((connNew t iss irs o window).o.stamp),.int .i64 ((connNew t iss irs o window).o.val),.int .i64 ((connNew t iss irs o window).o.echo),.int .i64 ((connNew t iss irs o window).timer),.int .i64 ((connNew t iss irs o window).tries)] _ rfl (by kernel_rfl) (by kernel_rfl) (by kernel_rfl) (by kernel_rfl) (by first | exact .inr rfl | exact .inl rfl) (by kernel_rfl) rfl ?_
  refine xe_done (by kernel_rfl) ?_
  exact ⟨(v19a,v19c),wk_forget 5 0 [11,12,13,15] (by kernel_rfl) (by kernel_rfl) (by kernel_rfl)⟩
  refine xs_box 8 ⟨51,conZ⟩ _ rfl (by kernel_rfl) (by kernel_rfl) (by kernel_rfl) (by kernel_rfl) rfl ?_
  refine xe_all [7] (by kernel_rfl) (by simp) ?_
  refine xs_call 7 27 [.agg (tupL t).toArray,.int .i64 iss,.int .i64 irs,.agg (optL o).toArray,.int .i64 window] (some 54) rfl (by kernel_rfl) rfl (by kernel_rfl) (xc_r fun ww hw hf => yiConnNew_c t iss irs o window ww   w.heap.size hw) ?_
  rintro ⟨v21a,v21c⟩
  have hbd22 : (connNew t iss irs o window).r.held.length ≤ 1048576 := connNew_bd _ _ _ _ _  (by omega)
  refine xe_all [9] (by kernel_rfl) (by simp) ?_
  refine xs_store 9 4 0 [.int .i64 ((connNew t iss irs o window).t.ip),.int .i64 ((connNew t iss irs o window).t.port),.int .i64 ((connNew t iss irs o window).t.my),.int .i64 ((connNew t iss irs o window).state),.int .i64 ((connNew t iss irs o window).s.una),.string ((connNew t iss irs o window).s.data),.int .i64 ((connNew t iss irs o window).s.sent),.bool ((connNew t iss irs o window).s.fin),.bool ((connNew t iss irs o window).s.finSent),.bool ((connNew t iss irs o window).s.done),.int .i64 ((connNew t iss irs o window).r.next),.string ((connNew t iss irs o window).r.data),.slice v21a ((connNew t iss irs o window).r.held.length) v21c,.int .i64 ((connNew t iss irs o window).r.fin),.bool ((connNew t iss irs o window).r.done),.int .i64 ((connNew t iss irs o window).window),.int .i64 ((connNew t iss irs o window).most),.int .i64 ((connNew t iss irs o window).o.mss),.int .i64 ((connNew t iss irs o window).o.scale),.bool ((connNew t iss irs o window).o.sack),.bool ((connNew t iss irs o window).o.stamp),.int .i64 ((connNew t iss irs o window).o.val),.int .i64 ((connNew t iss irs o window).o.echo),.int .i64 ((connNew t iss irs o window).timer),.int .i64 ((connNew t iss irs o window).tries)] _ rfl (by kernel_rfl) (by kernel_rfl) (by kernel_rfl) (by kernel_rfl) (by first | exact .inr rfl | exact .inl rfl) (by kernel_rfl) rfl ?_
  refine xe_done (by kernel_rfl) ?_
  exact ⟨(v21a,v21c),wk_forget 5 0 [11,12,13,15] (by kernel_rfl) (by kernel_rfl) (by kernel_rfl)⟩
  refine xs_box 8 ⟨51,conZ⟩ _ rfl (by kernel_rfl) (by kernel_rfl) (by kernel_rfl) (by kernel_rfl) rfl ?_
  refine xe_all [5] (by kernel_rfl) (by simp) ?_
  refine xs_call 5 26 [.agg (optL o).toArray] (some 52) rfl (by kernel_rfl) rfl (by kernel_rfl) (xc_b fun ww hf => toOptions_c o.mss o.scale o.sack o.stamp o.val o.echo ww) ?_
  intro _
  refine xe_all [7] (by kernel_rfl) (by simp) ?_
  refine xs_call 7 27 [.agg (tupL t).toArray,.int .i64 iss,.int .i64 irs,.agg (optL o).toArray,.int .i64 window] (some 54) rfl (by kernel_rfl) rfl (by kernel_rfl) (xc_r fun ww hw hf => yiConnNew_c t iss irs o window ww   w.heap.size hw) ?_
  rintro ⟨v23a,v23c⟩
  have hbd24 : (connNew t iss irs o window).r.held.length ≤ 1048576 := connNew_bd _ _ _ _ _  (by omega)
  refine xe_all [9] (by kernel_rfl) (by simp) ?_
  refine xs_store 9 4 0 [.int .i64 ((connNew t iss irs o window).t.ip),.int .i64 ((connNew t iss irs o window).t.port),.int .i64 ((connNew t iss irs o window).t.my),.int .i64 ((connNew t iss irs o window).state),.int .i64 ((connNew t iss irs o window).s.una),.string ((connNew t iss irs o window).s.data),.int .i64 ((connNew t iss irs o window).s.sent),.bool ((connNew t iss irs o window).s.fin),.bool ((connNew t iss irs o window).s.finSent),.bool ((connNew t iss irs o window).s.done),.int .i64 ((connNew t iss irs o window).r.next),.string ((connNew t iss irs o window).r.data),.slice v23a ((connNew t iss irs o window).r.held.length) v23c,.int .i64 ((connNew t iss irs o window).r.fin),.bool ((connNew t iss irs o window).r.done),.int .i64 ((connNew t iss irs o window).window),.int .i64 ((connNew t iss irs o window).most),.int .i64 ((connNew t iss irs o window).o.mss),.int .i64 ((connNew t iss irs o window).o.scale),.bool ((connNew t iss irs o window).o.sack),.bool ((connNew t iss irs o window).o.stamp),.int .i64 ((connNew t iss irs o window).o.val),.int .i64 ((connNew t iss irs o window).o.echo),.int .i64 ((connNew t iss irs o window).timer),.int .i64 ((connNew t iss irs o window).tries)] _ rfl (by kernel_rfl) (by kernel_rfl) (by kernel_rfl) (by kernel_rfl) (by first | exact .inr rfl | exact .inl rfl) (by kernel_rfl) rfl ?_
  refine xe_done (by kernel_rfl) ?_
  exact ⟨(v23a,v23c),wk_forget 5 0 [11,12,13,15] (by kernel_rfl) (by kernel_rfl) (by kernel_rfl)⟩
  refine xs_box 8 ⟨51,conZ⟩ _ rfl (by kernel_rfl) (by kernel_rfl) (by kernel_rfl) (by kernel_rfl) rfl ?_
  refine xe_all [1] (by kernel_rfl) (by simp) ?_
  refine xs_call 1 17 [.agg (tupL t).toArray] (some 48) rfl (by kernel_rfl) rfl (by kernel_rfl) (xc_b fun ww hf => toTuple_c t.ip t.port t.my ww) ?_
  intro _
  refine xe_all [5] (by kernel_rfl) (by simp) ?_
  refine xs_call 5 26 [.agg (optL o).toArray] (some 52) rfl (by kernel_rfl) rfl (by kernel_rfl) (xc_b fun ww hf => toOptions_c o.mss o.scale o.sack o.stamp o.val o.echo ww) ?_
  intro _
  refine xe_all [7] (by kernel_rfl) (by simp) ?_
  refine xs_call 7 27 [.agg (tupL t).toArray,.int .i64 iss,.int .i64 irs,.agg (optL o).toArray,.int .i64 window] (some 54) rfl (by kernel_rfl) rfl (by kernel_rfl) (xc_r fun ww hw hf => yiConnNew_c t iss irs o window ww   w.heap.size hw) ?_
  rintro ⟨v25a,v25c⟩
  have hbd26 : (connNew t iss irs o window).r.held.length ≤ 1048576 := connNew_bd _ _ _ _ _  (by omega)
  refine xe_all [9] (by kernel_rfl) (by simp) ?_
  refine xs_store 9 4 0 [.int .i64 ((connNew t iss irs o window).t.ip),.int .i64 ((connNew t iss irs o window).t.port),.int .i64 ((connNew t iss irs o window).t.my),.int .i64 ((connNew t iss irs o window).state),.int .i64 ((connNew t iss irs o window).s.una),.string ((connNew t iss irs o window).s.data),.int .i64 ((connNew t iss irs o window).s.sent),.bool ((connNew t iss irs o window).s.fin),.bool ((connNew t iss irs o window).s.finSent),.bool ((connNew t iss irs o window).s.done),.int .i64 ((connNew t iss irs o window).r.next),.string ((connNew t iss irs o window).r.data),.slice v25a ((connNew t iss irs o window).r.held.length) v25c,.int .i64 ((connNew t iss irs o window).r.fin),.bool ((connNew t iss irs o window).r.done),.int .i64 ((connNew t iss irs o window).window),.int .i64 ((connNew t iss irs o window).most),.int .i64 ((connNew t iss irs o window).o.mss),.int .i64 ((connNew t iss irs o window).o.scale),.bool ((connNew t iss irs o window).o.sack),.bool ((connNew t iss irs o window).o.stamp),.int .i64 ((connNew t iss irs o window).o.val),.int .i64 ((connNew t iss irs o window).o.echo),.int .i64 ((connNew t iss irs o window).timer),.int .i64 ((connNew t iss irs o window).tries)] _ rfl (by kernel_rfl) (by kernel_rfl) (by kernel_rfl) (by kernel_rfl) (by first | exact .inr rfl | exact .inl rfl) (by kernel_rfl) rfl ?_
  refine xe_done (by kernel_rfl) ?_
  exact ⟨(v25a,v25c),wk_forget 5 0 [11,12,13,15] (by kernel_rfl) (by kernel_rfl) (by kernel_rfl)⟩
  rintro ⟨v19a,v19c⟩
  refine xw_seq ?_
  refine xw_seq ?_
  refine xw_region ?_
  refine xl_call 2 [12,13,55,56] ⟨[(12,.p 3 0),(13,.v (.int .i64 (1 + 2 * (((connNew t iss irs o window).r.held).length : Int)))),(55,.v (.agg (conL (connNew t iss irs o window) (.slice v19a ((connNew t iss irs o window).r.held.length) v19c)).toArray)),(56,.v (.agg (conL (connNew t iss irs o window) (.slice v1a ((connNew t iss irs o window).r.held.length) v1c)).toArray))],[⟨24,tupL t⟩,⟨35,optL o⟩,⟨51,conL (connNew t iss irs o window) (.slice v1a ((connNew t iss irs o window).r.held.length) v1c)⟩,⟨51,conL { (connNew t iss irs o window) with r := { (connNew t iss irs o window).r with held := (marks mkP 2 1 ((connNew t iss irs o window).r.held).length) } } (.slice v9a ((connNew t iss irs o window).r.held.length) v9c)⟩,⟨51,conL (connNew t iss irs o window) (.slice v19a ((connNew t iss irs o window).r.held.length) v19c)⟩],[],[ownF w.heap.size (.slice v19a ((connNew t iss irs o window).r.held.length) v19c) 2 ((connNew t iss irs o window).r.held.map pceCells),ownF w.heap.size (.slice v9a ((connNew t iss irs o window).r.held.length) v9c) 2 ((marks mkP 2 1 ((connNew t iss irs o window).r.held).length).map pceCells),ownF w.heap.size (.slice v1a ((connNew t iss irs o window).r.held.length) v1c) 2 ((connNew t iss irs o window).r.held.map pceCells)]⟩ 28 [.agg (conL (connNew t iss irs o window) (.slice v19a ((connNew t iss irs o window).r.held.length) v19c)).toArray,.agg (conL (connNew t iss irs o window) (.slice v1a ((connNew t iss irs o window).r.held.length) v1c)).toArray] (some 57) (by kernel_rfl) rfl (by kernel_rfl) rfl (by kernel_rfl) (xc_b fun ww hf => eqConn_c ((connNew t iss irs o window).t.ip) ((connNew t iss irs o window).t.port) ((connNew t iss irs o window).t.my) ((connNew t iss irs o window).state) ((connNew t iss irs o window).s.una) ((connNew t iss irs o window).s.data) ((connNew t iss irs o window).s.sent) ((connNew t iss irs o window).s.fin) ((connNew t iss irs o window).s.finSent) ((connNew t iss irs o window).s.done) ((connNew t iss irs o window).r.next) ((connNew t iss irs o window).r.data) ((connNew t iss irs o window).r.held) (.slice v19a ((connNew t iss irs o window).r.held.length) v19c) ((connNew t iss irs o window).r.fin) ((connNew t iss irs o window).r.done) ((connNew t iss irs o window).window) ((connNew t iss irs o window).most) ((connNew t iss irs o window).o.mss) ((connNew t iss irs o window).o.scale) ((connNew t iss irs o window).o.sack) ((connNew t iss irs o window).o.stamp) ((connNew t iss irs o window).o.val) ((connNew t iss irs o window).o.echo) ((connNew t iss irs o window).timer) ((connNew t iss irs o window).tries) (.slice v1a ((connNew t iss irs o window).r.held.length) v1c) ww (Own.sl (hf (ownF w.heap.size (.slice v19a ((connNew t iss irs o window).r.held.length) v19c) 2 ((connNew t iss irs o window).r.held.map pceCells)) (by simp))) (Own.sl (hf (ownF w.heap.size (.slice v1a ((connNew t iss irs o window).r.held.length) v1c) 2 ((connNew t iss irs o window).r.held.map pceCells)) (by simp)))) ?_
  intro _
  refine xl_endS [12,13,58] [(12,.p 3 0),(13,.v (.int .i64 (1 + 2 * (((connNew t iss irs o window).r.held).length : Int)))),(58,.v (.bool false))] (by kernel_rfl) ?_
  refine xw_false (by kernel_rfl) ?_
  refine xw_skip ?_
  refine xw_seq ?_
  refine xw_region ?_
  refine xl_endS [12,13,14] [(12,.p 3 0),(13,.v (.int .i64 (1 + 2 * (((connNew t iss irs o window).r.held).length : Int)))),(14,.v (.int .i64 1))] (by kernel_rfl) ?_
  refine xw_seq ?_
  refine xw_region ?_
  refine xl_callS 2 [13,14,59,60] [(13,.v (.int .i64 (1 + 2 * (((connNew t iss irs o window).r.held).length : Int)))),(14,.v (.int .i64 1)),(59,.v (.agg (conL { (connNew t iss irs o window) with r := { (connNew t iss irs o window).r with held := (marks mkP 2 1 ((connNew t iss irs o window).r.held).length) } } (.slice v9a ((connNew t iss irs o window).r.held.length) v9c)).toArray)),(60,.v (.int .i64 1))] 30 [.agg (conL { (connNew t iss irs o window) with r := { (connNew t iss irs o window).r with held := (marks mkP 2 1 ((connNew t iss irs o window).r.held).length) } } (.slice v9a ((connNew t iss irs o window).r.held.length) v9c)).toArray,.int .i64 1] (some 61) (by kernel_rfl) rfl (by kernel_rfl) rfl (by kernel_rfl) (xc_b fun ww hf => yheldConn_m ((connNew t iss irs o window).r.held).length ((connNew t iss irs o window).t.ip) ((connNew t iss irs o window).t.port) ((connNew t iss irs o window).t.my) ((connNew t iss irs o window).state) ((connNew t iss irs o window).s.una) ((connNew t iss irs o window).s.data) ((connNew t iss irs o window).s.sent) ((connNew t iss irs o window).s.fin) ((connNew t iss irs o window).s.finSent) ((connNew t iss irs o window).s.done) ((connNew t iss irs o window).r.next) ((connNew t iss irs o window).r.data) ((connNew t iss irs o window).r.fin) ((connNew t iss irs o window).r.done) ((connNew t iss irs o window).window) ((connNew t iss irs o window).most) ((connNew t iss irs o window).o.mss) ((connNew t iss irs o window).o.scale) ((connNew t iss irs o window).o.sack) ((connNew t iss irs o window).o.stamp) ((connNew t iss irs o window).o.val) ((connNew t iss irs o window).o.echo) ((connNew t iss irs o window).timer) ((connNew t iss irs o window).tries) (.slice v9a ((connNew t iss irs o window).r.held.length) v9c) 1 ww (Own.sl (hf (ownF w.heap.size (.slice v9a ((connNew t iss irs o window).r.held.length) v9c) 2 ((marks mkP 2 1 ((connNew t iss irs o window).r.held).length).map pceCells)) (by simp))) (by omega) (by omega) (by omega)) ?_
  intro _
  refine xl_endS [13,14] [(13,.v (.int .i64 (1 + 2 * (((connNew t iss irs o window).r.held).length : Int)))),(14,.v (.int .i64 (1 + 2 * (((connNew t iss irs o window).r.held).length : Int))))] (by kernel_rfl) ?_
  refine xw_seq ?_
  refine xw_seq ?_
  refine xw_region ?_
  refine xl_endS [13,14,63] [(13,.v (.int .i64 (1 + 2 * (((connNew t iss irs o window).r.held).length : Int)))),(14,.v (.int .i64 (1 + 2 * (((connNew t iss irs o window).r.held).length : Int)))),(63,.v (.bool (decide ((1 + 2 * (((connNew t iss irs o window).r.held).length : Int)) < 0))))] (by kernel_rfl) ?_
  refine xw_cond (b := decide ((1 + 2 * (((connNew t iss irs o window).r.held).length : Int)) < 0)) (by kernel_rfl) (fun h27 => ?_) (fun h27 => ?_)
  have h27p : ((1 + 2 * (((connNew t iss irs o window).r.held).length : Int)) < 0) := of_decide_eq_true h27
  exfalso; have := of_decide_eq_true h27; omega
  have h27p : ¬ ((1 + 2 * (((connNew t iss irs o window).r.held).length : Int)) < 0) := of_decide_eq_false h27
  refine xw_skip ?_
  refine xw_seq ?_
  refine xw_seq ?_
  refine xw_region ?_
  refine xl_endS [66] [(66,.v (.bool ((1 + 2 * (((connNew t iss irs o window).r.held).length : Int)) != (1 + 2 * (((connNew t iss irs o window).r.held).length : Int)))))] (by kernel_rfl) ?_
  refine xw_cond (b := (1 + 2 * (((connNew t iss irs o window).r.held).length : Int)) != (1 + 2 * (((connNew t iss irs o window).r.held).length : Int))) (by kernel_rfl) (fun h28 => ?_) (fun h28 => ?_)
  simp at h28
  have h28p := neF h28
  refine xw_skip ?_
  refine xw_seq ?_
  refine xw_region ?_
  refine xl_endS [10] [(10,.v (.bool true))] (by kernel_rfl) ?_
  refine xw_ret ?_
  exact ⟨[.bool true],by kernel_rfl,fun w' hb hf => ⟨rfl,hb⟩⟩

set_option maxRecDepth 100000 in
theorem fnExactConnNew_lifted (os : Os) (started : os.Started) (H : Type) (enc : TypeId × Value → H) :
    ReturnsInHanded {} Try.checked os 5 .any (Rows.fnExactConnNewSpec.pre6 enc Try.prog Try.f5 Rows.fnExactConnNewRow.domain false) (Rows.fnExactConnNewSpec.post enc Try.prog Try.f5 false true false false) := by
  refine returnsInHanded_of_change (C := Try.checked) Try.ownK started (by kernel_rfl) Try.func5
    (ChangeSpec.witness6 (enc := enc) (C := Try.checked) false ⟨#[], #[.agg #[.int .i64 0, .int .i64 0, .int .i64 0], .int .i64 0, .int .i64 0, .agg #[.int .i64 0, .int .i64 0, .bool false, .bool false, .int .i64 0, .int .i64 0], .int .i64 0], []⟩ 8 (by kernel_rfl) (by kernel_rfl) (by kernel_rfl) (by kernel_rfl)) ?_
  intro W base args ds gs before hval0 hW hcnd _
  have hval : ∀ (j : Nat) t v, Try.f5.params[j]? = some t → args[j]? = some v → Value.okWide Try.prog W .any base t v := hval0
  have hW' := hW
  obtain ⟨p, q, hA0, hV, rfl, hfz, hnd⟩ := hW
  have hA : DataW.TrodAll enc Try.prog W 0 (fun _ => true) true Try.f5.params.toList args.toList ds p := hA0
  rw [Try.params5] at hA hval
  obtain ⟨v0, vs0, d0, ds0, p0, q0, hargs, rfl, rfl, h0, r0⟩ := trodAll_cons hA
  obtain ⟨v1, vs1, d1, ds1, p1, q1, rfl, rfl, rfl, h1, r1⟩ := trodAll_cons r0
  obtain ⟨v2, vs2, d2, ds2, p2, q2, rfl, rfl, rfl, h2, r2⟩ := trodAll_cons r1
  obtain ⟨v3, vs3, d3, ds3, p3, q3, rfl, rfl, rfl, h3, r3⟩ := trodAll_cons r2
  obtain ⟨v4, vs4, d4, ds4, p4, q4, rfl, rfl, rfl, h4, r4⟩ := trodAll_cons r3
  obtain ⟨rfl, rfl, rfl⟩ := trodAll_nil r4
  obtain rfl : args = #[v0, v1, v2, v3, v4] := by cases args; simp_all
  obtain ⟨rfl, rfl⟩ := trodVars_none hV
  clear hA0 hval0
  have g0 := h0
  have g1 := h1
  have g2 := h2
  have g3 := h3
  have g4 := h4
  obtain ⟨cs0, rfl, -⟩ := okWide_struct Try.underlying24 (hval 0 _ v0 rfl rfl)
  obtain ⟨fuel0, f0⟩ := g0
  obtain ⟨t_ip, t_port, t_my, e0, F_t_ip, F_t_port, F_t_my⟩ := open_TUP f0
  obtain rfl : cs0 = #[.int .i64 t_ip, .int .i64 t_port, .int .i64 t_my] := by cases cs0; simpa [Value.cells] using e0
  clear e0
  obtain ⟨a1, rfl, rfl, rfl, w1⟩ := open_int Try.underlying3 (hval 1 _ v1 rfl rfl) g1
  obtain ⟨a2, rfl, rfl, rfl, w2⟩ := open_int Try.underlying3 (hval 2 _ v2 rfl rfl) g2
  obtain ⟨cs3, rfl, -⟩ := okWide_struct Try.underlying35 (hval 3 _ v3 rfl rfl)
  obtain ⟨fuel3, f3⟩ := g3
  obtain ⟨o_mss, o_scale, o_sack, o_stamp, o_val, o_echo, e3, F_o_mss, F_o_scale, F_o_val, F_o_echo⟩ := open_OPT f3
  obtain rfl : cs3 = #[.int .i64 o_mss, .int .i64 o_scale, .bool o_sack, .bool o_stamp, .int .i64 o_val, .int .i64 o_echo] := by cases cs3; simpa [Value.cells] using e3
  clear e3
  obtain ⟨a4, rfl, rfl, rfl, w4⟩ := open_int Try.underlying3 (hval 4 _ v4 rfl rfl) g4
  refine (fnExactConnNew_walk (⟨t_ip, t_port, t_my⟩ : Tup) a1 a2 (⟨o_mss, o_scale, o_sack, o_stamp, o_val, o_echo⟩ : Opt) a4 W (wf_i64 w1) (wf_i64 w2) (wf_i64 w4)).mono fun e W' ⟨he, hb⟩ => ?_
  subst he
  have hlt : ∀ x ∈ (p0 ++ (([] : List MemPlace) ++ (([] : List MemPlace) ++ (p3 ++ (([] : List MemPlace) ++ ([])))))) ++ [], x.block < W.heap.size := fun x hx => hW'.lt x hx
  refine ⟨_, rfl, post_of_below (pa := (p0 ++ (([] : List MemPlace) ++ (([] : List MemPlace) ++ (p3 ++ (([] : List MemPlace) ++ ([]))))))) (pv := []) hW' (fun _ _ _ => trodAll_cons_mk (shut_bool Try.underlying4 _) trodAll_mk0) (fun sp hsp => trodAll_cons_mk (WideElems.Trod_stays Try.laidOut (by kernel_rfl) (of_decide_eq_true (by kernel_rfl)) h0 (fun x hx => hb.same (hlt x (List.mem_append_left _ (List.mem_append_left _ hx)))) (fun x hx => hsp x (List.mem_append_left _ (List.mem_append_left _ hx)))) (trodAll_cons_mk (WideElems.Trod_stays Try.laidOut (by kernel_rfl) (of_decide_eq_true (by kernel_rfl)) h1 (fun x hx => hb.same (hlt x (List.mem_append_left _ (List.mem_append_right _ (List.mem_append_left _ hx))))) (fun x hx => hsp x (List.mem_append_left _ (List.mem_append_right _ (List.mem_append_left _ hx))))) (trodAll_cons_mk (WideElems.Trod_stays Try.laidOut (by kernel_rfl) (of_decide_eq_true (by kernel_rfl)) h2 (fun x hx => hb.same (hlt x (List.mem_append_left _ (List.mem_append_right _ (List.mem_append_right _ (List.mem_append_left _ hx)))))) (fun x hx => hsp x (List.mem_append_left _ (List.mem_append_right _ (List.mem_append_right _ (List.mem_append_left _ hx)))))) (trodAll_cons_mk (WideElems.Trod_stays Try.laidOut (by kernel_rfl) (of_decide_eq_true (by kernel_rfl)) h3 (fun x hx => hb.same (hlt x (List.mem_append_left _ (List.mem_append_right _ (List.mem_append_right _ (List.mem_append_right _ (List.mem_append_left _ hx))))))) (fun x hx => hsp x (List.mem_append_left _ (List.mem_append_right _ (List.mem_append_right _ (List.mem_append_right _ (List.mem_append_left _ hx))))))) (trodAll_cons_mk (WideElems.Trod_stays Try.laidOut (by kernel_rfl) (of_decide_eq_true (by kernel_rfl)) h4 (fun x hx => hb.same (hlt x (List.mem_append_left _ (List.mem_append_right _ (List.mem_append_right _ (List.mem_append_right _ (List.mem_append_right _ (List.mem_append_left _ hx)))))))) (fun x hx => hsp x (List.mem_append_left _ (List.mem_append_right _ (List.mem_append_right _ (List.mem_append_right _ (List.mem_append_right _ (List.mem_append_left _ hx)))))))) (trodAll_mk0)))))) (fun _ _ => rfl) rfl hb (ok_one (by kernel_rfl) rfl (okWide_bool_mk Try.underlying4 _))⟩

theorem fnExactConnNew_over : Rows.fnExactConnNewRow.holds Try.pinned (OpenSpec.ofChange Rows.fnExactConnNewSpec) :=
  OpenClaim.holds_of_wide 5 Try.f5 rfl rfl rfl rfl rfl rfl rfl ⟨rfl, rfl, rfl, rfl, rfl⟩ rfl rfl rfl rfl rfl (by kernel_rfl) Try.func5 (by kernel_rfl)
    (of_decide_eq_true (by kernel_rfl)) (by unfold Func.isWrapper; first | (rw [if_pos (by decide +kernel)]; kernel_rfl) | (rw [if_neg (by decide +kernel)]; exact ⟨rfl, rfl⟩))
    (fun os started H enc _ => fnExactConnNew_lifted os started H enc)

theorem fnExactConnNew_holds : Rows.FnExactConnNewSaid := fnExactConnNew_over
#print axioms fnExactConnNew_holds
end Go.Proofs.Yteoipoenbofemaa
