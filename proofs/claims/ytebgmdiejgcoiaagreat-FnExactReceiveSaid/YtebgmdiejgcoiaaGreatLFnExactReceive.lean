/- The law FnExactReceive holds: for every argument the program's function answers true and leaves its arguments as they were. Conditions: none beyond the given row's. -/
import Derived.Test.YtebgmdiejgcoiaaGreatZ4
import Derived.Test.YtebgmdiejgcoiaaGreatG3
namespace Go.Proofs.YtebgmdiejgcoiaaGreat
open Go.RowKit Go.ChangeShapes Go.WideShapes Go.ChangeAt
set_option linter.unusedVariables false
set_option linter.unusedSimpArgs false

set_option maxRecDepth 100000 in
set_option maxHeartbeats 2000000 in
theorem fnExactReceive_walk (c : Con) (c_r_heldV : Value) (g : Seg) (w : World) (hs_c_s_data : c.s.data.size ≤ maxLen) (hs_c_r_data : c.r.data.size ≤ maxLen) (hl_c_r_heldV : Sl w c_r_heldV 2 (c.r.held.map pceCells)) (hm_c_r_heldV : ∀ p ∈ c.r.held, p.text.size ≤ maxLen) (hs_g_body : g.body.size ≤ maxLen) : Calls Tryz.prog 3 #[.agg (conL c c_r_heldV).toArray, .agg (segL g).toArray] w fun e w' => e = .returned (.bool true) ∧ Below w.heap.size w w' := by
 obtain ⟨Acrh,Ccrh,hvcrh⟩ := hl_c_r_heldV.form
 rw [List.length_map] at hvcrh; subst hvcrh
 have hncrh := hl_c_r_heldV.len; rw [List.length_map] at hncrh
 have hqcrh := Sl.capLe hl_c_r_heldV
 refine x_calls (args := [.agg (conL c (.slice Acrh c.r.held.length Ccrh)).toArray,.agg (segL g).toArray]) (fn := Tryz.f3) [slF (.slice Acrh c.r.held.length Ccrh) 2 (c.r.held.map pceCells)] Tryz.func3 rfl Tryz.ntmps3 rfl (by simp only [List.mem_cons,List.not_mem_nil,or_false,forall_eq_or_imp,forall_eq]; exact ⟨rfl,hl_c_r_heldV⟩) ?_
 refine kQ ?_
 refine kEF [2,3] ⟨[(2,.p 0 0),(3,.p 1 0)],[⟨32,conL c (.slice Acrh c.r.held.length Ccrh)⟩,⟨34,segL g⟩],[],[slF (.slice Acrh c.r.held.length Ccrh) 2 (c.r.held.map pceCells)]⟩ ?_
 refine kQ ?_
 refine kES [2,3,5] [(2,.p 0 0),(3,.p 1 0),(5,.v (.int .i64 1048576))] ?_
 refine kQ ?_
 refine kCS 2 [2,3,5,19,20] [(2,.p 0 0),(3,.p 1 0),(5,.v (.int .i64 1048576)),(19,.v (.agg (conL c (.slice Acrh c.r.held.length Ccrh)).toArray)),(20,.v (.int .i64 1048576))] 6 [.agg (conL c (.slice Acrh c.r.held.length Ccrh)).toArray,.int .i64 1048576] (some 21) rfl (xc_e (α := Int) (F := fun y => .int .i64 y) (p := fun r => r = -1 ∨ (0 ≤ r ∧ r ≤ 1048576 ∧ ConFit 1048576 c)) fun ww hf => szConn_c c.t.ip c.t.port c.t.my c.state c.s.una c.s.data c.s.sent c.s.fin c.s.finSent c.s.done c.r.next c.r.data c.r.held (.slice Acrh c.r.held.length Ccrh) c.r.fin c.r.done c.window c.most c.o.mss c.o.scale c.o.sack c.o.stamp c.o.val c.o.echo c.timer c.tries 1048576 ww (hf _ m0) hm_c_r_heldV (by omega) (by omega) hs_c_r_data hs_c_s_data) ?_
 rintro ⟨r1,hr1⟩
 refine kES [2,3,5] [(2,.p 0 0),(3,.p 1 0),(5,.v (.int .i64 r1))] ?_
 refine kS ?_
 refine kQ ?_
 refine kES [2,3,5,23] [(2,.p 0 0),(3,.p 1 0),(5,.v (.int .i64 r1)),(23,.v (.bool (decide (r1 < 0))))] ?_
 refine kC (decide (r1 < 0)) (fun h2 => ?_) (fun h2 => ?_)
 have h2p := of_decide_eq_true h2
 refine kQ ?_
 refine kES [4] [(4,.v (.bool true))] ?_
 refine kR ?_
 exact ⟨[.bool true],by kernel_rfl,fun w' hb hf => ⟨rfl,hb⟩⟩
 have h2p := of_decide_eq_false h2
 rcases hr1 with hr1 | ⟨hr1a,hr1b,hr1c⟩
 · omega
 obtain ⟨hr11,hr12,hr13,hr14⟩ := hr1c
 have hknr1 : c.r.held.length ≤ 1048576 := by omega
 have hmr1 : ∀ p ∈ c.r.held,p.text.size ≤ 1048576 := fun p hp => by have := hr14 p hp; omega
 refine kK ?_
 refine kQ ?_
 refine kCS 2 [2,3,5,24,25] [(2,.p 0 0),(3,.p 1 0),(5,.v (.int .i64 r1)),(24,.v (.agg (segL g).toArray)),(25,.v (.int .i64 r1))] 7 [.agg (segL g).toArray,.int .i64 r1] (some 26) rfl (xc_b fun ww hf => szSegment_c g.src g.dst g.seq g.ack g.flags g.window g.o.mss g.o.scale g.o.sack g.o.stamp g.o.val g.o.echo g.body r1 ww (by omega) (by omega) hs_g_body) ?_
 intro _
 refine kES [2,3,5] [(2,.p 0 0),(3,.p 1 0),(5,.v (.int .i64 (if (r1 : Int) < g.body.size then -1 else (r1 : Int) - g.body.size)))] ?_
 refine kS ?_
 refine kQ ?_
 refine kES [2,3,28] [(2,.p 0 0),(3,.p 1 0),(28,.v (.bool (decide ((if (r1 : Int) < g.body.size then -1 else (r1 : Int) - g.body.size) < 0))))] ?_
 refine kC (decide ((if (r1 : Int) < g.body.size then -1 else (r1 : Int) - g.body.size) < 0)) (fun h3 => ?_) (fun h3 => ?_)
 have h3p := of_decide_eq_true h3
 refine kQ ?_
 refine kES [4] [(4,.v (.bool true))] ?_
 refine kR ?_
 exact ⟨[.bool true],by kernel_rfl,fun w' hb hf => ⟨rfl,hb⟩⟩
 have h3p := of_decide_eq_false h3
 have hsz_g : g.body.size ≤ 1048576 := by by_cases hh : r1 < (g.body.size : Int) <;> simp [hh] at h3; omega
 obtain ⟨hza,hzb⟩ := received_bd (c := c) (g := g) (by omega) (by assumption) (by omega)
 refine kK ?_
 refine kS ?_
 refine xw_joinE (α := Option Addr × Nat × Option Addr × Nat × Option Addr × Nat) (fun y => (fun (v6a : Option Addr) (v6c : Nat) (v5a : Option Addr) (v5c : Nat) (v4a : Option Addr) (v4c : Nat) => (⟨[(2,.p 0 0),(3,.p 1 0),(6,.p 2 0),(7,.v (.slice v6a ((received c g).2.1.length) v6c)),(8,.v (.int .i64 ((received c g).2.2)))],[⟨32,conL c (.slice Acrh c.r.held.length Ccrh)⟩,⟨34,segL g⟩,⟨44,conL (received c g).1 (.slice v5a ((received c g).1.r.held.length) v5c)⟩],[],[ownF w.heap.size (.slice v5a ((received c g).1.r.held.length) v5c) 2 ((received c g).1.r.held.map pceCells),ownF w.heap.size (.slice v6a ((received c g).2.1.length) v6c) 13 ((received c g).2.1.map segCells),ownF w.heap.size (.slice v4a c.r.held.length v4c) 2 (c.r.held.map pceCells),slF (.slice Acrh c.r.held.length Ccrh) 2 (c.r.held.map pceCells)]⟩ : St)) y.1 y.2.1 y.2.2.1 y.2.2.2.1 y.2.2.2.2.1 y.2.2.2.2.2) ?_ ?_
 refine xe_region [] (by kernel_rfl) (fun ρ σ => ?_)
 refine kTS [0,2] [32,30,2,3] 11 [(32,.v (.agg (segL g).toArray)),(30,.v (.agg (conL c (.slice Acrh c.r.held.length Ccrh)).toArray)),(2,.p 0 0),(3,.p 1 0)] ?_
 refine kA [1,9] ⟨?_,?_⟩
 refine kSC 1 9 [.agg (conL c (.slice Acrh c.r.held.length Ccrh)).toArray] (some 31) rfl (xc_on (m := c.r.held.length) (F := fun v' => .agg (conL c v').toArray) (List.length_map ..) fun ww hf => toConn_c c.t.ip c.t.port c.t.my c.state c.s.una c.s.data c.s.sent c.s.fin c.s.finSent c.s.done c.r.next c.r.data c.r.held (.slice Acrh c.r.held.length Ccrh) c.r.fin c.r.done c.window c.most c.o.mss c.o.scale c.o.sack c.o.stamp c.o.val c.o.echo c.timer c.tries ww (hf _ m0) (by omega)) ?_
 rintro ⟨v4a,v4c⟩
 refine kA [3,9] ⟨?_,?_⟩
 refine kSC 3 10 [.agg (segL g).toArray] (some 33) rfl (xc_b fun ww hf => toSegment_c g.src g.dst g.seq g.ack g.flags g.window g.o.mss g.o.scale g.o.sack g.o.stamp g.o.val g.o.echo g.body ww) ?_
 intro _
 refine kA [4,9] ⟨?_,?_⟩
 refine kSC 4 8 [.agg (conL c (.slice v4a c.r.held.length v4c)).toArray,.agg (segL g).toArray] (some 34) rfl (xc_r fun ww hw hf => ysReceive_c c (.slice v4a c.r.held.length v4c) g ww (Own.sl (hf _ m0)) (by assumption) (by omega) (by assumption) (by omega) w.heap.size hw) ?_
 rintro ⟨⟨v5a,v5c⟩,⟨v6a,v6c⟩⟩
 refine kTS [5,6,7,8] [37,36,35,2,3] 4 [(37,.v (.int .i64 ((received c g).2.2))),(36,.v (.slice v6a ((received c g).2.1.length) v6c)),(35,.v (.agg (conL (received c g).1 (.slice v5a ((received c g).1.r.held.length) v5c)).toArray)),(2,.p 0 0),(3,.p 1 0)] ?_
 refine kA [9] ?_
 refine xs_box 9 ⟨44,conZ⟩ _ rfl (by kernel_rfl) (by kernel_rfl) (by kernel_rfl) (by kernel_rfl) rfl ?_
 refine kA [10] ?_
 refine kSS 10 2 0 (conL (received c g).1 (.slice v5a ((received c g).1.r.held.length) v5c)) rfl ?_
 refine kTS [11,12] [8,7,6,2,3] 0 [(8,.v (.int .i64 ((received c g).2.2))),(7,.v (.slice v6a ((received c g).2.1.length) v6c)),(6,.p 2 0),(2,.p 0 0),(3,.p 1 0)] ?_
 refine kZ ?_
 exact ⟨(v6a,v6c,v5a,v5c,v4a,v4c),kF 3 0 [2,3,6,7,8]⟩
 refine xs_box 9 ⟨44,conZ⟩ _ rfl (by kernel_rfl) (by kernel_rfl) (by kernel_rfl) (by kernel_rfl) rfl ?_
 refine kA [4] ?_
 refine kSC 4 8 [.agg (conL c (.slice v4a c.r.held.length v4c)).toArray,.agg (segL g).toArray] (some 34) rfl (xc_r fun ww hw hf => ysReceive_c c (.slice v4a c.r.held.length v4c) g ww (Own.sl (hf _ m0)) (by assumption) (by omega) (by assumption) (by omega) w.heap.size hw) ?_
 rintro ⟨⟨v7a,v7c⟩,⟨v8a,v8c⟩⟩
 refine kTS [5,6,7,8] [37,36,35,6,2,3] 3 [(37,.v (.int .i64 ((received c g).2.2))),(36,.v (.slice v8a ((received c g).2.1.length) v8c)),(35,.v (.agg (conL (received c g).1 (.slice v7a ((received c g).1.r.held.length) v7c)).toArray)),(6,.p 2 0),(2,.p 0 0),(3,.p 1 0)] ?_
 refine kA [10] ?_
 refine kSS 10 2 0 (conL (received c g).1 (.slice v7a ((received c g).1.r.held.length) v7c)) rfl ?_
 refine kTS [11,12] [8,7,6,2,3] 0 [(8,.v (.int .i64 ((received c g).2.2))),(7,.v (.slice v8a ((received c g).2.1.length) v8c)),(6,.p 2 0),(2,.p 0 0),(3,.p 1 0)] ?_
 refine kZ ?_
 exact ⟨(v8a,v8c,v7a,v7c,v4a,v4c),kF 3 0 [2,3,6,7,8]⟩
 refine xs_box 9 ⟨44,conZ⟩ _ rfl (by kernel_rfl) (by kernel_rfl) (by kernel_rfl) (by kernel_rfl) rfl ?_
 refine kA [3] ?_
 refine kSC 3 10 [.agg (segL g).toArray] (some 33) rfl (xc_b fun ww hf => toSegment_c g.src g.dst g.seq g.ack g.flags g.window g.o.mss g.o.scale g.o.sack g.o.stamp g.o.val g.o.echo g.body ww) ?_
 intro _
 refine kA [4] ?_
 refine kSC 4 8 [.agg (conL c (.slice v4a c.r.held.length v4c)).toArray,.agg (segL g).toArray] (some 34) rfl (xc_r fun ww hw hf => ysReceive_c c (.slice v4a c.r.held.length v4c) g ww (Own.sl (hf _ m0)) (by assumption) (by omega) (by assumption) (by omega) w.heap.size hw) ?_
 rintro ⟨⟨v9a,v9c⟩,⟨v10a,v10c⟩⟩
 refine kTS [5,6,7,8] [37,36,35,6,2,3] 3 [(37,.v (.int .i64 ((received c g).2.2))),(36,.v (.slice v10a ((received c g).2.1.length) v10c)),(35,.v (.agg (conL (received c g).1 (.slice v9a ((received c g).1.r.held.length) v9c)).toArray)),(6,.p 2 0),(2,.p 0 0),(3,.p 1 0)] ?_
 refine kA [10] ?_
 refine kSS 10 2 0 (conL (received c g).1 (.slice v9a ((received c g).1.r.held.length) v9c)) rfl ?_
 refine kTS [11,12] [8,7,6,2,3] 0 [(8,.v (.int .i64 ((received c g).2.2))),(7,.v (.slice v10a ((received c g).2.1.length) v10c)),(6,.p 2 0),(2,.p 0 0),(3,.p 1 0)] ?_
 refine kZ ?_
 exact ⟨(v10a,v10c,v9a,v9c,v4a,v4c),kF 3 0 [2,3,6,7,8]⟩
 refine xs_box 9 ⟨44,conZ⟩ _ rfl (by kernel_rfl) (by kernel_rfl) (by kernel_rfl) (by kernel_rfl) rfl ?_
 refine kA [1] ?_
 refine kSC 1 9 [.agg (conL c (.slice Acrh c.r.held.length Ccrh)).toArray] (some 31) rfl (xc_on (m := c.r.held.length) (F := fun v' => .agg (conL c v').toArray) (List.length_map ..) fun ww hf => toConn_c c.t.ip c.t.port c.t.my c.state c.s.una c.s.data c.s.sent c.s.fin c.s.finSent c.s.done c.r.next c.r.data c.r.held (.slice Acrh c.r.held.length Ccrh) c.r.fin c.r.done c.window c.most c.o.mss c.o.scale c.o.sack c.o.stamp c.o.val c.o.echo c.timer c.tries ww (hf _ m0) (by omega)) ?_
 rintro ⟨v11a,v11c⟩
 refine kA [3] ?_
 refine kSC 3 10 [.agg (segL g).toArray] (some 33) rfl (xc_b fun ww hf => toSegment_c g.src g.dst g.seq g.ack g.flags g.window g.o.mss g.o.scale g.o.sack g.o.stamp g.o.val g.o.echo g.body ww) ?_
 intro _
 refine kA [4] ?_
 refine kSC 4 8 [.agg (conL c (.slice v11a c.r.held.length v11c)).toArray,.agg (segL g).toArray] (some 34) rfl (xc_r fun ww hw hf => ysReceive_c c (.slice v11a c.r.held.length v11c) g ww (Own.sl (hf _ m0)) (by assumption) (by omega) (by assumption) (by omega) w.heap.size hw) ?_
 rintro ⟨⟨v12a,v12c⟩,⟨v13a,v13c⟩⟩
 refine kTS [5,6,7,8] [37,36,35,6,2,3] 3 [(37,.v (.int .i64 ((received c g).2.2))),(36,.v (.slice v13a ((received c g).2.1.length) v13c)),(35,.v (.agg (conL (received c g).1 (.slice v12a ((received c g).1.r.held.length) v12c)).toArray)),(6,.p 2 0),(2,.p 0 0),(3,.p 1 0)] ?_
 refine kA [10] ?_
 refine kSS 10 2 0 (conL (received c g).1 (.slice v12a ((received c g).1.r.held.length) v12c)) rfl ?_
 refine kTS [11,12] [8,7,6,2,3] 0 [(8,.v (.int .i64 ((received c g).2.2))),(7,.v (.slice v13a ((received c g).2.1.length) v13c)),(6,.p 2 0),(2,.p 0 0),(3,.p 1 0)] ?_
 refine kZ ?_
 exact ⟨(v13a,v13c,v12a,v12c,v11a,v11c),kF 3 0 [2,3,6,7,8]⟩
 rintro ⟨v6a,v6c,v5a,v5c,v4a,v4c⟩
 refine kQ ?_
 refine kCF 1 [2,3,6,7,8,38] ⟨[(2,.p 0 0),(3,.p 1 0),(6,.p 2 0),(7,.v (.slice v6a ((received c g).2.1.length) v6c)),(8,.v (.int .i64 ((received c g).2.2))),(38,.v (.agg (conL c (.slice Acrh c.r.held.length Ccrh)).toArray))],[⟨32,conL c (.slice Acrh c.r.held.length Ccrh)⟩,⟨34,segL g⟩,⟨44,conL (received c g).1 (.slice v5a ((received c g).1.r.held.length) v5c)⟩],[],[ownF w.heap.size (.slice v5a ((received c g).1.r.held.length) v5c) 2 ((received c g).1.r.held.map pceCells),ownF w.heap.size (.slice v6a ((received c g).2.1.length) v6c) 13 ((received c g).2.1.map segCells),ownF w.heap.size (.slice v4a c.r.held.length v4c) 2 (c.r.held.map pceCells),slF (.slice Acrh c.r.held.length Ccrh) 2 (c.r.held.map pceCells)]⟩ 9 [.agg (conL c (.slice Acrh c.r.held.length Ccrh)).toArray] (some 39) rfl (xc_on (m := c.r.held.length) (F := fun v' => .agg (conL c v').toArray) (List.length_map ..) fun ww hf => toConn_c c.t.ip c.t.port c.t.my c.state c.s.una c.s.data c.s.sent c.s.fin c.s.finSent c.s.done c.r.next c.r.data c.r.held (.slice Acrh c.r.held.length Ccrh) c.r.fin c.r.done c.window c.most c.o.mss c.o.scale c.o.sack c.o.stamp c.o.val c.o.echo c.timer c.tries ww (hf _ m3) (by omega)) ?_
 rintro ⟨v14a,v14c⟩
 refine kEF [2,3,6,7,8,9] ⟨[(2,.p 0 0),(3,.p 1 0),(6,.p 2 0),(7,.v (.slice v6a ((received c g).2.1.length) v6c)),(8,.v (.int .i64 ((received c g).2.2))),(9,.p 3 0)],[⟨32,conL c (.slice Acrh c.r.held.length Ccrh)⟩,⟨34,segL g⟩,⟨44,conL (received c g).1 (.slice v5a ((received c g).1.r.held.length) v5c)⟩,⟨44,conL c (.slice v14a c.r.held.length v14c)⟩],[],[ownF w.heap.size (.slice v14a c.r.held.length v14c) 2 (c.r.held.map pceCells),ownF w.heap.size (.slice v5a ((received c g).1.r.held.length) v5c) 2 ((received c g).1.r.held.map pceCells),ownF w.heap.size (.slice v6a ((received c g).2.1.length) v6c) 13 ((received c g).2.1.map segCells),ownF w.heap.size (.slice v4a c.r.held.length v4c) 2 (c.r.held.map pceCells),slF (.slice Acrh c.r.held.length Ccrh) 2 (c.r.held.map pceCells)]⟩ ?_
 refine kS ?_
 refine xw_joinE (α := Option Addr × Nat × Option Addr × Nat) (fun y => (fun (v16a : Option Addr) (v16c : Nat) (v15a : Option Addr) (v15c : Nat) => (⟨[(2,.p 0 0),(3,.p 1 0),(6,.p 2 0),(7,.v (.slice v6a ((received c g).2.1.length) v6c)),(8,.v (.int .i64 ((received c g).2.2))),(9,.p 3 0),(10,.p 4 0),(11,.v (.slice v16a ((received c g).2.1.length) v16c)),(12,.v (.int .i64 ((received c g).2.2)))],[⟨32,conL c (.slice Acrh c.r.held.length Ccrh)⟩,⟨34,segL g⟩,⟨44,conL (received c g).1 (.slice v5a ((received c g).1.r.held.length) v5c)⟩,⟨44,conL c (.slice v14a c.r.held.length v14c)⟩,⟨44,conL (received c g).1 (.slice v15a ((received c g).1.r.held.length) v15c)⟩],[],[ownF w.heap.size (.slice v15a ((received c g).1.r.held.length) v15c) 2 ((received c g).1.r.held.map pceCells),ownF w.heap.size (.slice v16a ((received c g).2.1.length) v16c) 13 ((received c g).2.1.map segCells),ownF w.heap.size (.slice v14a c.r.held.length v14c) 2 (c.r.held.map pceCells),ownF w.heap.size (.slice v5a ((received c g).1.r.held.length) v5c) 2 ((received c g).1.r.held.map pceCells),ownF w.heap.size (.slice v6a ((received c g).2.1.length) v6c) 13 ((received c g).2.1.map segCells),ownF w.heap.size (.slice v4a c.r.held.length v4c) 2 (c.r.held.map pceCells),slF (.slice Acrh c.r.held.length Ccrh) 2 (c.r.held.map pceCells)]⟩ : St)) y.1 y.2.1 y.2.2.1 y.2.2.2) ?_ ?_
 refine xe_region [] (by kernel_rfl) (fun ρ σ => ?_)
 refine kTS [0,1] [42,41,2,3,6,7,8,9] 10 [(42,.v (.agg (segL g).toArray)),(41,.v (.agg (conL c (.slice v14a c.r.held.length v14c)).toArray)),(2,.p 0 0),(3,.p 1 0),(6,.p 2 0),(7,.v (.slice v6a ((received c g).2.1.length) v6c)),(8,.v (.int .i64 ((received c g).2.2))),(9,.p 3 0)] ?_
 refine kA [2,8] ⟨?_,?_⟩
 refine kSC 2 10 [.agg (segL g).toArray] (some 43) rfl (xc_b fun ww hf => toSegment_c g.src g.dst g.seq g.ack g.flags g.window g.o.mss g.o.scale g.o.sack g.o.stamp g.o.val g.o.echo g.body ww) ?_
 intro _
 refine kA [3,8] ⟨?_,?_⟩
 refine kSC 3 11 [.agg (conL c (.slice v14a c.r.held.length v14c)).toArray,.agg (segL g).toArray] (some 44) rfl (xc_r fun ww hw hf => yiReceive_c c (.slice v14a c.r.held.length v14c) g ww (Own.sl (hf _ m0)) (by assumption) (by omega) (by assumption) (by omega) w.heap.size hw) ?_
 rintro ⟨⟨v15a,v15c⟩,⟨v16a,v16c⟩⟩
 refine kTS [4,5,6,7] [47,46,45,2,3,6,7,8,9] 4 [(47,.v (.int .i64 ((received c g).2.2))),(46,.v (.slice v16a ((received c g).2.1.length) v16c)),(45,.v (.agg (conL (received c g).1 (.slice v15a ((received c g).1.r.held.length) v15c)).toArray)),(2,.p 0 0),(3,.p 1 0),(6,.p 2 0),(7,.v (.slice v6a ((received c g).2.1.length) v6c)),(8,.v (.int .i64 ((received c g).2.2))),(9,.p 3 0)] ?_
 refine kA [8] ?_
 refine xs_box 8 ⟨44,conZ⟩ _ rfl (by kernel_rfl) (by kernel_rfl) (by kernel_rfl) (by kernel_rfl) rfl ?_
 refine kA [9] ?_
 refine kSS 9 4 0 (conL (received c g).1 (.slice v15a ((received c g).1.r.held.length) v15c)) rfl ?_
 refine kTS [10,11] [12,11,10,2,3,6,7,8,9] 0 [(12,.v (.int .i64 ((received c g).2.2))),(11,.v (.slice v16a ((received c g).2.1.length) v16c)),(10,.p 4 0),(2,.p 0 0),(3,.p 1 0),(6,.p 2 0),(7,.v (.slice v6a ((received c g).2.1.length) v6c)),(8,.v (.int .i64 ((received c g).2.2))),(9,.p 3 0)] ?_
 refine kZ ?_
 exact ⟨(v16a,v16c,v15a,v15c),kF 5 0 [2,3,6,7,8,9,10,11,12]⟩
 refine xs_box 8 ⟨44,conZ⟩ _ rfl (by kernel_rfl) (by kernel_rfl) (by kernel_rfl) (by kernel_rfl) rfl ?_
 refine kA [3] ?_
 refine kSC 3 11 [.agg (conL c (.slice v14a c.r.held.length v14c)).toArray,.agg (segL g).toArray] (some 44) rfl (xc_r fun ww hw hf => yiReceive_c c (.slice v14a c.r.held.length v14c) g ww (Own.sl (hf _ m0)) (by assumption) (by omega) (by assumption) (by omega) w.heap.size hw) ?_
 rintro ⟨⟨v17a,v17c⟩,⟨v18a,v18c⟩⟩
 refine kTS [4,5,6,7] [47,46,45,10,2,3,6,7,8,9] 3 [(47,.v (.int .i64 ((received c g).2.2))),(46,.v (.slice v18a ((received c g).2.1.length) v18c)),(45,.v (.agg (conL (received c g).1 (.slice v17a ((received c g).1.r.held.length) v17c)).toArray)),(10,.p 4 0),(2,.p 0 0),(3,.p 1 0),(6,.p 2 0),(7,.v (.slice v6a ((received c g).2.1.length) v6c)),(8,.v (.int .i64 ((received c g).2.2))),(9,.p 3 0)] ?_
 refine kA [9] ?_
 refine kSS 9 4 0 (conL (received c g).1 (.slice v17a ((received c g).1.r.held.length) v17c)) rfl ?_
 refine kTS [10,11] [12,11,10,2,3,6,7,8,9] 0 [(12,.v (.int .i64 ((received c g).2.2))),(11,.v (.slice v18a ((received c g).2.1.length) v18c)),(10,.p 4 0),(2,.p 0 0),(3,.p 1 0),(6,.p 2 0),(7,.v (.slice v6a ((received c g).2.1.length) v6c)),(8,.v (.int .i64 ((received c g).2.2))),(9,.p 3 0)] ?_
 refine kZ ?_
 exact ⟨(v18a,v18c,v17a,v17c),kF 5 0 [2,3,6,7,8,9,10,11,12]⟩
 refine xs_box 8 ⟨44,conZ⟩ _ rfl (by kernel_rfl) (by kernel_rfl) (by kernel_rfl) (by kernel_rfl) rfl ?_
 refine kA [2] ?_
 refine kSC 2 10 [.agg (segL g).toArray] (some 43) rfl (xc_b fun ww hf => toSegment_c g.src g.dst g.seq g.ack g.flags g.window g.o.mss g.o.scale g.o.sack g.o.stamp g.o.val g.o.echo g.body ww) ?_
 intro _
 refine kA [3] ?_
 refine kSC 3 11 [.agg (conL c (.slice v14a c.r.held.length v14c)).toArray,.agg (segL g).toArray] (some 44) rfl (xc_r fun ww hw hf => yiReceive_c c (.slice v14a c.r.held.length v14c) g ww (Own.sl (hf _ m0)) (by assumption) (by omega) (by assumption) (by omega) w.heap.size hw) ?_
 rintro ⟨⟨v19a,v19c⟩,⟨v20a,v20c⟩⟩
 refine kTS [4,5,6,7] [47,46,45,10,2,3,6,7,8,9] 3 [(47,.v (.int .i64 ((received c g).2.2))),(46,.v (.slice v20a ((received c g).2.1.length) v20c)),(45,.v (.agg (conL (received c g).1 (.slice v19a ((received c g).1.r.held.length) v19c)).toArray)),(10,.p 4 0),(2,.p 0 0),(3,.p 1 0),(6,.p 2 0),(7,.v (.slice v6a ((received c g).2.1.length) v6c)),(8,.v (.int .i64 ((received c g).2.2))),(9,.p 3 0)] ?_
 refine kA [9] ?_
 refine kSS 9 4 0 (conL (received c g).1 (.slice v19a ((received c g).1.r.held.length) v19c)) rfl ?_
 refine kTS [10,11] [12,11,10,2,3,6,7,8,9] 0 [(12,.v (.int .i64 ((received c g).2.2))),(11,.v (.slice v20a ((received c g).2.1.length) v20c)),(10,.p 4 0),(2,.p 0 0),(3,.p 1 0),(6,.p 2 0),(7,.v (.slice v6a ((received c g).2.1.length) v6c)),(8,.v (.int .i64 ((received c g).2.2))),(9,.p 3 0)] ?_
 refine kZ ?_
 exact ⟨(v20a,v20c,v19a,v19c),kF 5 0 [2,3,6,7,8,9,10,11,12]⟩
 rintro ⟨v16a,v16c,v15a,v15c⟩
 refine kS ?_
 refine kQ ?_
 refine kCF 2 [2,3,6,7,8,9,10,11,12,48,49] ⟨[(2,.p 0 0),(3,.p 1 0),(6,.p 2 0),(7,.v (.slice v6a ((received c g).2.1.length) v6c)),(8,.v (.int .i64 ((received c g).2.2))),(9,.p 3 0),(10,.p 4 0),(11,.v (.slice v16a ((received c g).2.1.length) v16c)),(12,.v (.int .i64 ((received c g).2.2))),(48,.v (.agg (conL (received c g).1 (.slice v15a ((received c g).1.r.held.length) v15c)).toArray)),(49,.v (.agg (conL (received c g).1 (.slice v5a ((received c g).1.r.held.length) v5c)).toArray))],[⟨32,conL c (.slice Acrh c.r.held.length Ccrh)⟩,⟨34,segL g⟩,⟨44,conL (received c g).1 (.slice v5a ((received c g).1.r.held.length) v5c)⟩,⟨44,conL c (.slice v14a c.r.held.length v14c)⟩,⟨44,conL (received c g).1 (.slice v15a ((received c g).1.r.held.length) v15c)⟩],[],[ownF w.heap.size (.slice v15a ((received c g).1.r.held.length) v15c) 2 ((received c g).1.r.held.map pceCells),ownF w.heap.size (.slice v16a ((received c g).2.1.length) v16c) 13 ((received c g).2.1.map segCells),ownF w.heap.size (.slice v14a c.r.held.length v14c) 2 (c.r.held.map pceCells),ownF w.heap.size (.slice v5a ((received c g).1.r.held.length) v5c) 2 ((received c g).1.r.held.map pceCells),ownF w.heap.size (.slice v6a ((received c g).2.1.length) v6c) 13 ((received c g).2.1.map segCells),ownF w.heap.size (.slice v4a c.r.held.length v4c) 2 (c.r.held.map pceCells),slF (.slice Acrh c.r.held.length Ccrh) 2 (c.r.held.map pceCells)]⟩ 12 [.agg (conL (received c g).1 (.slice v15a ((received c g).1.r.held.length) v15c)).toArray,.agg (conL (received c g).1 (.slice v5a ((received c g).1.r.held.length) v5c)).toArray] (some 50) rfl (xc_b fun ww hf => eqConn_c ((received c g).1.t.ip) ((received c g).1.t.port) ((received c g).1.t.my) ((received c g).1.state) ((received c g).1.s.una) ((received c g).1.s.data) ((received c g).1.s.sent) ((received c g).1.s.fin) ((received c g).1.s.finSent) ((received c g).1.s.done) ((received c g).1.r.next) ((received c g).1.r.data) ((received c g).1.r.held) (.slice v15a ((received c g).1.r.held.length) v15c) ((received c g).1.r.fin) ((received c g).1.r.done) ((received c g).1.window) ((received c g).1.most) ((received c g).1.o.mss) ((received c g).1.o.scale) ((received c g).1.o.sack) ((received c g).1.o.stamp) ((received c g).1.o.val) ((received c g).1.o.echo) ((received c g).1.timer) ((received c g).1.tries) (.slice v5a ((received c g).1.r.held.length) v5c) ww (Own.sl (hf _ m0)) (Own.sl (hf _ m3))) ?_
 intro _
 refine kCS 4 [2,3,6,7,8,9,10,11,12,52,53,54] [(2,.p 0 0),(3,.p 1 0),(6,.p 2 0),(7,.v (.slice v6a ((received c g).2.1.length) v6c)),(8,.v (.int .i64 ((received c g).2.2))),(9,.p 3 0),(10,.p 4 0),(11,.v (.slice v16a ((received c g).2.1.length) v16c)),(12,.v (.int .i64 ((received c g).2.2))),(52,.v (.bool false)),(53,.v (.slice v16a ((received c g).2.1.length) v16c)),(54,.v (.slice v6a ((received c g).2.1.length) v6c))] 13 [.slice v16a ((received c g).2.1.length) v16c,.slice v6a ((received c g).2.1.length) v6c] (some 55) rfl (xc_b fun ww hf => yeqSegmentS_c ((received c g).2.1) (.slice v16a ((received c g).2.1.length) v16c) (.slice v6a ((received c g).2.1.length) v6c) ww (Own.sl (hf _ m1)) (Own.sl (hf _ m4)) ) ?_
 intro _
 refine kES [2,3,6,7,8,9,10,11,12,62] [(2,.p 0 0),(3,.p 1 0),(6,.p 2 0),(7,.v (.slice v6a ((received c g).2.1.length) v6c)),(8,.v (.int .i64 ((received c g).2.2))),(9,.p 3 0),(10,.p 4 0),(11,.v (.slice v16a ((received c g).2.1.length) v16c)),(12,.v (.int .i64 ((received c g).2.2))),(62,.v (.bool (((received c g).2.2) != ((received c g).2.2))))] ?_
 refine kC (((received c g).2.2) != ((received c g).2.2)) (fun h21 => ?_) (fun h21 => ?_)
 simp at h21
 have h21p := neF h21
 refine kK ?_
 refine kS ?_
 refine kS ?_
 refine xe_region [] (by kernel_rfl) (fun ρ σ => ?_)
 refine kTS [0,1] [64,63,2,3,6,7,8,9,10,11,12] 3 [(64,.v (.agg (conL c (.slice Acrh c.r.held.length Ccrh)).toArray)),(63,.v (.agg (conL c (.slice v14a c.r.held.length v14c)).toArray)),(2,.p 0 0),(3,.p 1 0),(6,.p 2 0),(7,.v (.slice v6a ((received c g).2.1.length) v6c)),(8,.v (.int .i64 ((received c g).2.2))),(9,.p 3 0),(10,.p 4 0),(11,.v (.slice v16a ((received c g).2.1.length) v16c)),(12,.v (.int .i64 ((received c g).2.2)))] ?_
 refine kA [2] ?_
 refine kSC 2 9 [.agg (conL c (.slice Acrh c.r.held.length Ccrh)).toArray] (some 65) rfl (xc_on (m := c.r.held.length) (F := fun v' => .agg (conL c v').toArray) (List.length_map ..) fun ww hf => toConn_c c.t.ip c.t.port c.t.my c.state c.s.una c.s.data c.s.sent c.s.fin c.s.finSent c.s.done c.r.next c.r.data c.r.held (.slice Acrh c.r.held.length Ccrh) c.r.fin c.r.done c.window c.most c.o.mss c.o.scale c.o.sack c.o.stamp c.o.val c.o.echo c.timer c.tries ww (hf _ m6) (by omega)) ?_
 rintro ⟨v22a,v22c⟩
 refine kA [3] ?_
 refine kSC 3 12 [.agg (conL c (.slice v14a c.r.held.length v14c)).toArray,.agg (conL c (.slice v22a c.r.held.length v22c)).toArray] (some 66) rfl (xc_b fun ww hf => eqConn_c c.t.ip c.t.port c.t.my c.state c.s.una c.s.data c.s.sent c.s.fin c.s.finSent c.s.done c.r.next c.r.data c.r.held (.slice v14a c.r.held.length v14c) c.r.fin c.r.done c.window c.most c.o.mss c.o.scale c.o.sack c.o.stamp c.o.val c.o.echo c.timer c.tries (.slice v22a c.r.held.length v22c) ww (Own.sl (hf _ m3)) (Own.sl (hf _ m0))) ?_
 intro _
 refine kTS [4] [67,2,3,6,7,8,9,10,11,12] 0 [(67,.v (.bool false)),(2,.p 0 0),(3,.p 1 0),(6,.p 2 0),(7,.v (.slice v6a ((received c g).2.1.length) v6c)),(8,.v (.int .i64 ((received c g).2.2))),(9,.p 3 0),(10,.p 4 0),(11,.v (.slice v16a ((received c g).2.1.length) v16c)),(12,.v (.int .i64 ((received c g).2.2)))] ?_
 refine kZ ?_
 refine kN ?_
 refine kK ?_
 refine kQ ?_
 refine kES [2,3,6,7,8,9,10,11,12,13] [(2,.p 0 0),(3,.p 1 0),(6,.p 2 0),(7,.v (.slice v6a ((received c g).2.1.length) v6c)),(8,.v (.int .i64 ((received c g).2.2))),(9,.p 3 0),(10,.p 4 0),(11,.v (.slice v16a ((received c g).2.1.length) v16c)),(12,.v (.int .i64 ((received c g).2.2))),(13,.v (.int .i64 1))] ?_
 refine kQ ?_
 refine kWS 2 [2,3,6,7,8,10,11,12,13,68,69] [(2,.p 0 0),(3,.p 1 0),(6,.p 2 0),(7,.v (.slice v6a ((received c g).2.1.length) v6c)),(8,.v (.int .i64 ((received c g).2.2))),(10,.p 4 0),(11,.v (.slice v16a ((received c g).2.1.length) v16c)),(12,.v (.int .i64 ((received c g).2.2))),(13,.v (.int .i64 1)),(68,.v (.agg (conL c (.slice v14a c.r.held.length v14c)).toArray)),(69,.v (.int .i64 1))] 14 [.agg (conL c (.slice v14a c.r.held.length v14c)).toArray,.int .i64 1] (some 70) 3 rfl rfl (fun ww b h hb => vblk_lo h hb) (xcm_own marks_ne fun ww hw hf => ymarkConn_c c (.slice v14a c.r.held.length v14c) 1 ww w.heap.size hw (hf (ownF w.heap.size (.slice v14a c.r.held.length v14c) 2 (c.r.held.map pceCells)) (by simp)) (by omega) (by omega) (by omega)) ?_
 intro _
 refine kES [2,3,6,7,8,10,11,12,13] [(2,.p 0 0),(3,.p 1 0),(6,.p 2 0),(7,.v (.slice v6a ((received c g).2.1.length) v6c)),(8,.v (.int .i64 ((received c g).2.2))),(10,.p 4 0),(11,.v (.slice v16a ((received c g).2.1.length) v16c)),(12,.v (.int .i64 ((received c g).2.2))),(13,.v (.int .i64 (1 + 2 * (c.r.held.length : Int))))] ?_
 refine kS ?_
 refine kQ ?_
 refine kRS 3 [2,3,6,7,8,10,11,12,73] [(2,.p 0 0),(3,.p 1 0),(6,.p 2 0),(7,.v (.slice v6a ((received c g).2.1.length) v6c)),(8,.v (.int .i64 ((received c g).2.2))),(10,.p 4 0),(11,.v (.slice v16a ((received c g).2.1.length) v16c)),(12,.v (.int .i64 ((received c g).2.2))),(73,.v (.bool (decide ((1 + 2 * (c.r.held.length : Int)) < 0))))] ?_
 refine kP 73 (decide ((1 + 2 * (c.r.held.length : Int)) < 0)) (fun h23 => ?_) (fun h23 => ?_)
 have h23p := of_decide_eq_true h23
 exfalso; have := of_decide_eq_true h23; omega
 have h23p := of_decide_eq_false h23
 refine kCS 2 [2,3,6,7,8,10,11,12,73,74,75] [(2,.p 0 0),(3,.p 1 0),(6,.p 2 0),(7,.v (.slice v6a ((received c g).2.1.length) v6c)),(8,.v (.int .i64 ((received c g).2.2))),(10,.p 4 0),(11,.v (.slice v16a ((received c g).2.1.length) v16c)),(12,.v (.int .i64 ((received c g).2.2))),(73,.v (.bool false)),(74,.v (.agg (conL (received c g).1 (.slice v15a ((received c g).1.r.held.length) v15c)).toArray)),(75,.v (.agg (conL (received c g).1 (.slice v5a ((received c g).1.r.held.length) v5c)).toArray))] 12 [.agg (conL (received c g).1 (.slice v15a ((received c g).1.r.held.length) v15c)).toArray,.agg (conL (received c g).1 (.slice v5a ((received c g).1.r.held.length) v5c)).toArray] (some 76) rfl (xc_b fun ww hf => eqConn_c ((received c g).1.t.ip) ((received c g).1.t.port) ((received c g).1.t.my) ((received c g).1.state) ((received c g).1.s.una) ((received c g).1.s.data) ((received c g).1.s.sent) ((received c g).1.s.fin) ((received c g).1.s.finSent) ((received c g).1.s.done) ((received c g).1.r.next) ((received c g).1.r.data) ((received c g).1.r.held) (.slice v15a ((received c g).1.r.held.length) v15c) ((received c g).1.r.fin) ((received c g).1.r.done) ((received c g).1.window) ((received c g).1.most) ((received c g).1.o.mss) ((received c g).1.o.scale) ((received c g).1.o.sack) ((received c g).1.o.stamp) ((received c g).1.o.val) ((received c g).1.o.echo) ((received c g).1.timer) ((received c g).1.tries) (.slice v5a ((received c g).1.r.held.length) v5c) ww (Own.sl (hf _ m2)) (Own.sl (hf _ m4))) ?_
 intro _
 refine kCS 5 [2,3,6,7,8,10,11,12,79,80,81] [(2,.p 0 0),(3,.p 1 0),(6,.p 2 0),(7,.v (.slice v6a ((received c g).2.1.length) v6c)),(8,.v (.int .i64 ((received c g).2.2))),(10,.p 4 0),(11,.v (.slice v16a ((received c g).2.1.length) v16c)),(12,.v (.int .i64 ((received c g).2.2))),(79,.v (.bool false)),(80,.v (.slice v16a ((received c g).2.1.length) v16c)),(81,.v (.slice v6a ((received c g).2.1.length) v6c))] 13 [.slice v16a ((received c g).2.1.length) v16c,.slice v6a ((received c g).2.1.length) v6c] (some 82) rfl (xc_b fun ww hf => yeqSegmentS_c ((received c g).2.1) (.slice v16a ((received c g).2.1.length) v16c) (.slice v6a ((received c g).2.1.length) v6c) ww (Own.sl (hf _ m3)) (Own.sl (hf _ m5)) ) ?_
 intro _
 refine kES [2,3,6,7,8,10,11,89] [(2,.p 0 0),(3,.p 1 0),(6,.p 2 0),(7,.v (.slice v6a ((received c g).2.1.length) v6c)),(8,.v (.int .i64 ((received c g).2.2))),(10,.p 4 0),(11,.v (.slice v16a ((received c g).2.1.length) v16c)),(89,.v (.bool (((received c g).2.2) != ((received c g).2.2))))] ?_
 refine kC (((received c g).2.2) != ((received c g).2.2)) (fun h24 => ?_) (fun h24 => ?_)
 simp at h24
 have h24p := neF h24
 refine kK ?_
 refine kQ ?_
 refine kES [2,3,6,7,8,10,11,14] [(2,.p 0 0),(3,.p 1 0),(6,.p 2 0),(7,.v (.slice v6a ((received c g).2.1.length) v6c)),(8,.v (.int .i64 ((received c g).2.2))),(10,.p 4 0),(11,.v (.slice v16a ((received c g).2.1.length) v16c)),(14,.v (.int .i64 1))] ?_
 refine kQ ?_
 refine kWS 2 [2,3,6,7,8,10,11,14,90,91] [(2,.p 0 0),(3,.p 1 0),(6,.p 2 0),(7,.v (.slice v6a ((received c g).2.1.length) v6c)),(8,.v (.int .i64 ((received c g).2.2))),(10,.p 4 0),(11,.v (.slice v16a ((received c g).2.1.length) v16c)),(14,.v (.int .i64 1)),(90,.v (.agg (conL (received c g).1 (.slice v15a ((received c g).1.r.held.length) v15c)).toArray)),(91,.v (.int .i64 1))] 14 [.agg (conL (received c g).1 (.slice v15a ((received c g).1.r.held.length) v15c)).toArray,.int .i64 1] (some 92) 2 rfl rfl (fun ww b h hb => vblk_lo h hb) (xcm_own marks_ne fun ww hw hf => ymarkConn_c ((received c g).1) (.slice v15a ((received c g).1.r.held.length) v15c) 1 ww w.heap.size hw (hf (ownF w.heap.size (.slice v15a ((received c g).1.r.held.length) v15c) 2 ((received c g).1.r.held.map pceCells)) (by simp)) (by omega) (by omega) (by omega)) ?_
 intro _
 refine kES [2,3,6,7,8,10,11,14] [(2,.p 0 0),(3,.p 1 0),(6,.p 2 0),(7,.v (.slice v6a ((received c g).2.1.length) v6c)),(8,.v (.int .i64 ((received c g).2.2))),(10,.p 4 0),(11,.v (.slice v16a ((received c g).2.1.length) v16c)),(14,.v (.int .i64 (1 + 2 * (((received c g).1.r.held).length : Int))))] ?_
 refine kQ ?_
 refine kWS 2 [2,3,6,7,8,10,11,14,93,94] [(2,.p 0 0),(3,.p 1 0),(6,.p 2 0),(7,.v (.slice v6a ((received c g).2.1.length) v6c)),(8,.v (.int .i64 ((received c g).2.2))),(10,.p 4 0),(11,.v (.slice v16a ((received c g).2.1.length) v16c)),(14,.v (.int .i64 (1 + 2 * (((received c g).1.r.held).length : Int)))),(93,.v (.slice v16a ((received c g).2.1.length) v16c)),(94,.v (.int .i64 (1 + 2 * (((received c g).1.r.held).length : Int))))] 15 [.slice v16a ((received c g).2.1.length) v16c,.int .i64 (1 + 2 * (((received c g).1.r.held).length : Int))] (some 95) 3 rfl rfl (fun ww b h hb => vblk_lo h hb) (xcm_own marks_ne fun ww hw hf => ymarkSegmentS_c (.slice v16a ((received c g).2.1.length) v16c) ((received c g).2.1) (1 + 2 * (((received c g).1.r.held).length : Int)) ww w.heap.size hw (hf (ownF w.heap.size (.slice v16a ((received c g).2.1.length) v16c) 13 ((received c g).2.1.map segCells)) (by simp)) (by omega) (by omega) (by omega)) ?_
 intro _
 refine kES [2,3,6,7,8,10,11,14] [(2,.p 0 0),(3,.p 1 0),(6,.p 2 0),(7,.v (.slice v6a ((received c g).2.1.length) v6c)),(8,.v (.int .i64 ((received c g).2.2))),(10,.p 4 0),(11,.v (.slice v16a ((received c g).2.1.length) v16c)),(14,.v (.int .i64 ((1 + 2 * (((received c g).1.r.held).length : Int)) + 13 * (((received c g).2.1).length : Int))))] ?_
 refine kQ ?_
 refine kES [2,3,6,7,8,10,11,14,15] [(2,.p 0 0),(3,.p 1 0),(6,.p 2 0),(7,.v (.slice v6a ((received c g).2.1.length) v6c)),(8,.v (.int .i64 ((received c g).2.2))),(10,.p 4 0),(11,.v (.slice v16a ((received c g).2.1.length) v16c)),(14,.v (.int .i64 ((1 + 2 * (((received c g).1.r.held).length : Int)) + 13 * (((received c g).2.1).length : Int)))),(15,.v (.int .i64 1))] ?_
 refine kQ ?_
 refine kCS 2 [2,3,6,7,8,10,11,14,15,96,97] [(2,.p 0 0),(3,.p 1 0),(6,.p 2 0),(7,.v (.slice v6a ((received c g).2.1.length) v6c)),(8,.v (.int .i64 ((received c g).2.2))),(10,.p 4 0),(11,.v (.slice v16a ((received c g).2.1.length) v16c)),(14,.v (.int .i64 ((1 + 2 * (((received c g).1.r.held).length : Int)) + 13 * (((received c g).2.1).length : Int)))),(15,.v (.int .i64 1)),(96,.v (.agg (conL { (received c g).1 with r := { (received c g).1.r with held := (marks mkP 2 1 ((received c g).1.r.held).length) } } (.slice v15a ((received c g).1.r.held.length) v15c)).toArray)),(97,.v (.int .i64 1))] 16 [.agg (conL { (received c g).1 with r := { (received c g).1.r with held := (marks mkP 2 1 ((received c g).1.r.held).length) } } (.slice v15a ((received c g).1.r.held.length) v15c)).toArray,.int .i64 1] (some 98) rfl (xc_b fun ww hf => yheldConn_m ((received c g).1.r.held).length ((received c g).1.t.ip) ((received c g).1.t.port) ((received c g).1.t.my) ((received c g).1.state) ((received c g).1.s.una) ((received c g).1.s.data) ((received c g).1.s.sent) ((received c g).1.s.fin) ((received c g).1.s.finSent) ((received c g).1.s.done) ((received c g).1.r.next) ((received c g).1.r.data) ((received c g).1.r.fin) ((received c g).1.r.done) ((received c g).1.window) ((received c g).1.most) ((received c g).1.o.mss) ((received c g).1.o.scale) ((received c g).1.o.sack) ((received c g).1.o.stamp) ((received c g).1.o.val) ((received c g).1.o.echo) ((received c g).1.timer) ((received c g).1.tries) (.slice v15a ((received c g).1.r.held.length) v15c) 1 ww (Own.sl (hf _ m1)) (by omega) (by omega) (by omega)) ?_
 intro _
 refine kES [2,3,6,7,8,10,11,14,15] [(2,.p 0 0),(3,.p 1 0),(6,.p 2 0),(7,.v (.slice v6a ((received c g).2.1.length) v6c)),(8,.v (.int .i64 ((received c g).2.2))),(10,.p 4 0),(11,.v (.slice v16a ((received c g).2.1.length) v16c)),(14,.v (.int .i64 ((1 + 2 * (((received c g).1.r.held).length : Int)) + 13 * (((received c g).2.1).length : Int)))),(15,.v (.int .i64 (1 + 2 * (((received c g).1.r.held).length : Int))))] ?_
 refine kS ?_
 refine kQ ?_
 refine kES [2,3,6,7,8,10,11,14,15,100] [(2,.p 0 0),(3,.p 1 0),(6,.p 2 0),(7,.v (.slice v6a ((received c g).2.1.length) v6c)),(8,.v (.int .i64 ((received c g).2.2))),(10,.p 4 0),(11,.v (.slice v16a ((received c g).2.1.length) v16c)),(14,.v (.int .i64 ((1 + 2 * (((received c g).1.r.held).length : Int)) + 13 * (((received c g).2.1).length : Int)))),(15,.v (.int .i64 (1 + 2 * (((received c g).1.r.held).length : Int)))),(100,.v (.bool (decide ((1 + 2 * (((received c g).1.r.held).length : Int)) < 0))))] ?_
 refine kC (decide ((1 + 2 * (((received c g).1.r.held).length : Int)) < 0)) (fun h25 => ?_) (fun h25 => ?_)
 have h25p := of_decide_eq_true h25
 exfalso; have := of_decide_eq_true h25; omega
 have h25p := of_decide_eq_false h25
 refine kK ?_
 refine kQ ?_
 refine kCS 2 [2,3,6,7,8,10,11,14,15,101,102] [(2,.p 0 0),(3,.p 1 0),(6,.p 2 0),(7,.v (.slice v6a ((received c g).2.1.length) v6c)),(8,.v (.int .i64 ((received c g).2.2))),(10,.p 4 0),(11,.v (.slice v16a ((received c g).2.1.length) v16c)),(14,.v (.int .i64 ((1 + 2 * (((received c g).1.r.held).length : Int)) + 13 * (((received c g).2.1).length : Int)))),(15,.v (.int .i64 (1 + 2 * (((received c g).1.r.held).length : Int)))),(101,.v (.slice v16a ((received c g).2.1.length) v16c)),(102,.v (.int .i64 (1 + 2 * (((received c g).1.r.held).length : Int))))] 17 [.slice v16a ((received c g).2.1.length) v16c,.int .i64 (1 + 2 * (((received c g).1.r.held).length : Int))] (some 103) rfl (xc_b fun ww hf => yheldSegmentS_m ((received c g).2.1).length  (.slice v16a ((received c g).2.1.length) v16c) (1 + 2 * (((received c g).1.r.held).length : Int)) ww (Own.sl (hf _ m0)) (by omega) (by omega) (by omega)) ?_
 intro _
 refine kES [2,3,6,7,8,10,11,14,15] [(2,.p 0 0),(3,.p 1 0),(6,.p 2 0),(7,.v (.slice v6a ((received c g).2.1.length) v6c)),(8,.v (.int .i64 ((received c g).2.2))),(10,.p 4 0),(11,.v (.slice v16a ((received c g).2.1.length) v16c)),(14,.v (.int .i64 ((1 + 2 * (((received c g).1.r.held).length : Int)) + 13 * (((received c g).2.1).length : Int)))),(15,.v (.int .i64 ((1 + 2 * (((received c g).1.r.held).length : Int)) + 13 * (((received c g).2.1).length : Int))))] ?_
 refine kS ?_
 refine kQ ?_
 refine kES [2,3,6,7,8,10,11,14,15,105] [(2,.p 0 0),(3,.p 1 0),(6,.p 2 0),(7,.v (.slice v6a ((received c g).2.1.length) v6c)),(8,.v (.int .i64 ((received c g).2.2))),(10,.p 4 0),(11,.v (.slice v16a ((received c g).2.1.length) v16c)),(14,.v (.int .i64 ((1 + 2 * (((received c g).1.r.held).length : Int)) + 13 * (((received c g).2.1).length : Int)))),(15,.v (.int .i64 ((1 + 2 * (((received c g).1.r.held).length : Int)) + 13 * (((received c g).2.1).length : Int)))),(105,.v (.bool (decide (((1 + 2 * (((received c g).1.r.held).length : Int)) + 13 * (((received c g).2.1).length : Int)) < 0))))] ?_
 refine kC (decide (((1 + 2 * (((received c g).1.r.held).length : Int)) + 13 * (((received c g).2.1).length : Int)) < 0)) (fun h26 => ?_) (fun h26 => ?_)
 have h26p := of_decide_eq_true h26
 exfalso; have := of_decide_eq_true h26; omega
 have h26p := of_decide_eq_false h26
 refine kK ?_
 refine kS ?_
 refine kQ ?_
 refine kES [2,3,6,7,8,10,11,14,108] [(2,.p 0 0),(3,.p 1 0),(6,.p 2 0),(7,.v (.slice v6a ((received c g).2.1.length) v6c)),(8,.v (.int .i64 ((received c g).2.2))),(10,.p 4 0),(11,.v (.slice v16a ((received c g).2.1.length) v16c)),(14,.v (.int .i64 ((1 + 2 * (((received c g).1.r.held).length : Int)) + 13 * (((received c g).2.1).length : Int)))),(108,.v (.bool (((1 + 2 * (((received c g).1.r.held).length : Int)) + 13 * (((received c g).2.1).length : Int)) != ((1 + 2 * (((received c g).1.r.held).length : Int)) + 13 * (((received c g).2.1).length : Int)))))] ?_
 refine kC (((1 + 2 * (((received c g).1.r.held).length : Int)) + 13 * (((received c g).2.1).length : Int)) != ((1 + 2 * (((received c g).1.r.held).length : Int)) + 13 * (((received c g).2.1).length : Int))) (fun h27 => ?_) (fun h27 => ?_)
 simp at h27
 have h27p := neF h27
 refine kK ?_
 refine kS ?_
 refine xw_joinE (α := Option Addr × Nat × Option Addr × Nat × Option Addr × Nat) (fun y => (fun (v30a : Option Addr) (v30c : Nat) (v29a : Option Addr) (v29c : Nat) (v28a : Option Addr) (v28c : Nat) => (⟨[(6,.p 2 0),(7,.v (.slice v6a ((received c g).2.1.length) v6c)),(8,.v (.int .i64 ((received c g).2.2))),(10,.p 4 0),(11,.v (.slice v16a ((received c g).2.1.length) v16c)),(14,.v (.int .i64 ((1 + 2 * (((received c g).1.r.held).length : Int)) + 13 * (((received c g).2.1).length : Int)))),(16,.p 5 0),(17,.v (.slice v30a ((received c g).2.1.length) v30c)),(18,.v (.int .i64 ((received c g).2.2)))],[⟨32,conL c (.slice Acrh c.r.held.length Ccrh)⟩,⟨34,segL g⟩,⟨44,conL (received c g).1 (.slice v5a ((received c g).1.r.held.length) v5c)⟩,⟨44,conL { c with r := { c.r with held := (marks mkP 2 1 c.r.held.length) } } (.slice v14a c.r.held.length v14c)⟩,⟨44,conL { (received c g).1 with r := { (received c g).1.r with held := (marks mkP 2 1 ((received c g).1.r.held).length) } } (.slice v15a ((received c g).1.r.held.length) v15c)⟩,⟨44,conL (received c g).1 (.slice v29a ((received c g).1.r.held.length) v29c)⟩],[],[ownF w.heap.size (.slice v29a ((received c g).1.r.held.length) v29c) 2 ((received c g).1.r.held.map pceCells),ownF w.heap.size (.slice v30a ((received c g).2.1.length) v30c) 13 ((received c g).2.1.map segCells),ownF w.heap.size (.slice v28a c.r.held.length v28c) 2 (c.r.held.map pceCells),ownF w.heap.size (.slice v16a ((received c g).2.1.length) v16c) 13 ((marks mkS 13 (1 + 2 * (((received c g).1.r.held).length : Int)) ((received c g).2.1).length).map segCells),ownF w.heap.size (.slice v15a ((received c g).1.r.held.length) v15c) 2 ((marks mkP 2 1 ((received c g).1.r.held).length).map pceCells),ownF w.heap.size (.slice v14a c.r.held.length v14c) 2 ((marks mkP 2 1 c.r.held.length).map pceCells),ownF w.heap.size (.slice v22a c.r.held.length v22c) 2 (c.r.held.map pceCells),ownF w.heap.size (.slice v5a ((received c g).1.r.held.length) v5c) 2 ((received c g).1.r.held.map pceCells),ownF w.heap.size (.slice v6a ((received c g).2.1.length) v6c) 13 ((received c g).2.1.map segCells),ownF w.heap.size (.slice v4a c.r.held.length v4c) 2 (c.r.held.map pceCells),slF (.slice Acrh c.r.held.length Ccrh) 2 (c.r.held.map pceCells)]⟩ : St)) y.1 y.2.1 y.2.2.1 y.2.2.2.1 y.2.2.2.2.1 y.2.2.2.2.2) ?_ ?_
 refine xe_region [] (by kernel_rfl) (fun ρ σ => ?_)
 refine kTS [0,2] [112,110,6,7,8,10,11,14] 11 [(112,.v (.agg (segL g).toArray)),(110,.v (.agg (conL c (.slice Acrh c.r.held.length Ccrh)).toArray)),(6,.p 2 0),(7,.v (.slice v6a ((received c g).2.1.length) v6c)),(8,.v (.int .i64 ((received c g).2.2))),(10,.p 4 0),(11,.v (.slice v16a ((received c g).2.1.length) v16c)),(14,.v (.int .i64 ((1 + 2 * (((received c g).1.r.held).length : Int)) + 13 * (((received c g).2.1).length : Int))))] ?_
 refine kA [1,9] ⟨?_,?_⟩
 refine kSC 1 9 [.agg (conL c (.slice Acrh c.r.held.length Ccrh)).toArray] (some 111) rfl (xc_on (m := c.r.held.length) (F := fun v' => .agg (conL c v').toArray) (List.length_map ..) fun ww hf => toConn_c c.t.ip c.t.port c.t.my c.state c.s.una c.s.data c.s.sent c.s.fin c.s.finSent c.s.done c.r.next c.r.data c.r.held (.slice Acrh c.r.held.length Ccrh) c.r.fin c.r.done c.window c.most c.o.mss c.o.scale c.o.sack c.o.stamp c.o.val c.o.echo c.timer c.tries ww (hf _ m7) (by omega)) ?_
 rintro ⟨v28a,v28c⟩
 refine kA [3,9] ⟨?_,?_⟩
 refine kSC 3 10 [.agg (segL g).toArray] (some 113) rfl (xc_b fun ww hf => toSegment_c g.src g.dst g.seq g.ack g.flags g.window g.o.mss g.o.scale g.o.sack g.o.stamp g.o.val g.o.echo g.body ww) ?_
 intro _
 refine kA [4,9] ⟨?_,?_⟩
 refine kSC 4 11 [.agg (conL c (.slice v28a c.r.held.length v28c)).toArray,.agg (segL g).toArray] (some 114) rfl (xc_r fun ww hw hf => yiReceive_c c (.slice v28a c.r.held.length v28c) g ww (Own.sl (hf _ m0)) (by assumption) (by omega) (by assumption) (by omega) w.heap.size hw) ?_
 rintro ⟨⟨v29a,v29c⟩,⟨v30a,v30c⟩⟩
 refine kTS [5,6,7,8] [117,116,115,6,7,8,10,11,14] 4 [(117,.v (.int .i64 ((received c g).2.2))),(116,.v (.slice v30a ((received c g).2.1.length) v30c)),(115,.v (.agg (conL (received c g).1 (.slice v29a ((received c g).1.r.held.length) v29c)).toArray)),(6,.p 2 0),(7,.v (.slice v6a ((received c g).2.1.length) v6c)),(8,.v (.int .i64 ((received c g).2.2))),(10,.p 4 0),(11,.v (.slice v16a ((received c g).2.1.length) v16c)),(14,.v (.int .i64 ((1 + 2 * (((received c g).1.r.held).length : Int)) + 13 * (((received c g).2.1).length : Int))))] ?_
 refine kA [9] ?_
 refine xs_box 9 ⟨44,conZ⟩ _ rfl (by kernel_rfl) (by kernel_rfl) (by kernel_rfl) (by kernel_rfl) rfl ?_
 refine kA [10] ?_
 refine kSS 10 5 0 (conL (received c g).1 (.slice v29a ((received c g).1.r.held.length) v29c)) rfl ?_
 refine kTS [11,12] [18,17,16,6,7,8,10,11,14] 0 [(18,.v (.int .i64 ((received c g).2.2))),(17,.v (.slice v30a ((received c g).2.1.length) v30c)),(16,.p 5 0),(6,.p 2 0),(7,.v (.slice v6a ((received c g).2.1.length) v6c)),(8,.v (.int .i64 ((received c g).2.2))),(10,.p 4 0),(11,.v (.slice v16a ((received c g).2.1.length) v16c)),(14,.v (.int .i64 ((1 + 2 * (((received c g).1.r.held).length : Int)) + 13 * (((received c g).2.1).length : Int))))] ?_
 refine kZ ?_
 exact ⟨(v30a,v30c,v29a,v29c,v28a,v28c),kF 6 0 [6,7,8,10,11,14,16,17,18]⟩
 refine xs_box 9 ⟨44,conZ⟩ _ rfl (by kernel_rfl) (by kernel_rfl) (by kernel_rfl) (by kernel_rfl) rfl ?_
 refine kA [4] ?_
 refine kSC 4 11 [.agg (conL c (.slice v28a c.r.held.length v28c)).toArray,.agg (segL g).toArray] (some 114) rfl (xc_r fun ww hw hf => yiReceive_c c (.slice v28a c.r.held.length v28c) g ww (Own.sl (hf _ m0)) (by assumption) (by omega) (by assumption) (by omega) w.heap.size hw) ?_
 rintro ⟨⟨v31a,v31c⟩,⟨v32a,v32c⟩⟩
 refine kTS [5,6,7,8] [117,116,115,16,6,7,8,10,11,14] 3 [(117,.v (.int .i64 ((received c g).2.2))),(116,.v (.slice v32a ((received c g).2.1.length) v32c)),(115,.v (.agg (conL (received c g).1 (.slice v31a ((received c g).1.r.held.length) v31c)).toArray)),(16,.p 5 0),(6,.p 2 0),(7,.v (.slice v6a ((received c g).2.1.length) v6c)),(8,.v (.int .i64 ((received c g).2.2))),(10,.p 4 0),(11,.v (.slice v16a ((received c g).2.1.length) v16c)),(14,.v (.int .i64 ((1 + 2 * (((received c g).1.r.held).length : Int)) + 13 * (((received c g).2.1).length : Int))))] ?_
 refine kA [10] ?_
 refine kSS 10 5 0 (conL (received c g).1 (.slice v31a ((received c g).1.r.held.length) v31c)) rfl ?_
 refine kTS [11,12] [18,17,16,6,7,8,10,11,14] 0 [(18,.v (.int .i64 ((received c g).2.2))),(17,.v (.slice v32a ((received c g).2.1.length) v32c)),(16,.p 5 0),(6,.p 2 0),(7,.v (.slice v6a ((received c g).2.1.length) v6c)),(8,.v (.int .i64 ((received c g).2.2))),(10,.p 4 0),(11,.v (.slice v16a ((received c g).2.1.length) v16c)),(14,.v (.int .i64 ((1 + 2 * (((received c g).1.r.held).length : Int)) + 13 * (((received c g).2.1).length : Int))))] ?_
 refine kZ ?_
 exact ⟨(v32a,v32c,v31a,v31c,v28a,v28c),kF 6 0 [6,7,8,10,11,14,16,17,18]⟩
 refine xs_box 9 ⟨44,conZ⟩ _ rfl (by kernel_rfl) (by kernel_rfl) (by kernel_rfl) (by kernel_rfl) rfl ?_
 refine kA [3] ?_
 refine kSC 3 10 [.agg (segL g).toArray] (some 113) rfl (xc_b fun ww hf => toSegment_c g.src g.dst g.seq g.ack g.flags g.window g.o.mss g.o.scale g.o.sack g.o.stamp g.o.val g.o.echo g.body ww) ?_
 intro _
 refine kA [4] ?_
 refine kSC 4 11 [.agg (conL c (.slice v28a c.r.held.length v28c)).toArray,.agg (segL g).toArray] (some 114) rfl (xc_r fun ww hw hf => yiReceive_c c (.slice v28a c.r.held.length v28c) g ww (Own.sl (hf _ m0)) (by assumption) (by omega) (by assumption) (by omega) w.heap.size hw) ?_
 rintro ⟨⟨v33a,v33c⟩,⟨v34a,v34c⟩⟩
 refine kTS [5,6,7,8] [117,116,115,16,6,7,8,10,11,14] 3 [(117,.v (.int .i64 ((received c g).2.2))),(116,.v (.slice v34a ((received c g).2.1.length) v34c)),(115,.v (.agg (conL (received c g).1 (.slice v33a ((received c g).1.r.held.length) v33c)).toArray)),(16,.p 5 0),(6,.p 2 0),(7,.v (.slice v6a ((received c g).2.1.length) v6c)),(8,.v (.int .i64 ((received c g).2.2))),(10,.p 4 0),(11,.v (.slice v16a ((received c g).2.1.length) v16c)),(14,.v (.int .i64 ((1 + 2 * (((received c g).1.r.held).length : Int)) + 13 * (((received c g).2.1).length : Int))))] ?_
 refine kA [10] ?_
 refine kSS 10 5 0 (conL (received c g).1 (.slice v33a ((received c g).1.r.held.length) v33c)) rfl ?_
 refine kTS [11,12] [18,17,16,6,7,8,10,11,14] 0 [(18,.v (.int .i64 ((received c g).2.2))),(17,.v (.slice v34a ((received c g).2.1.length) v34c)),(16,.p 5 0),(6,.p 2 0),(7,.v (.slice v6a ((received c g).2.1.length) v6c)),(8,.v (.int .i64 ((received c g).2.2))),(10,.p 4 0),(11,.v (.slice v16a ((received c g).2.1.length) v16c)),(14,.v (.int .i64 ((1 + 2 * (((received c g).1.r.held).length : Int)) + 13 * (((received c g).2.1).length : Int))))] ?_
 refine kZ ?_
 exact ⟨(v34a,v34c,v33a,v33c,v28a,v28c),kF 6 0 [6,7,8,10,11,14,16,17,18]⟩
 refine xs_box 9 ⟨44,conZ⟩ _ rfl (by kernel_rfl) (by kernel_rfl) (by kernel_rfl) (by kernel_rfl) rfl ?_
 refine kA [1] ?_
 refine kSC 1 9 [.agg (conL c (.slice Acrh c.r.held.length Ccrh)).toArray] (some 111) rfl (xc_on (m := c.r.held.length) (F := fun v' => .agg (conL c v').toArray) (List.length_map ..) fun ww hf => toConn_c c.t.ip c.t.port c.t.my c.state c.s.una c.s.data c.s.sent c.s.fin c.s.finSent c.s.done c.r.next c.r.data c.r.held (.slice Acrh c.r.held.length Ccrh) c.r.fin c.r.done c.window c.most c.o.mss c.o.scale c.o.sack c.o.stamp c.o.val c.o.echo c.timer c.tries ww (hf _ m7) (by omega)) ?_
 rintro ⟨v35a,v35c⟩
 refine kA [3] ?_
 refine kSC 3 10 [.agg (segL g).toArray] (some 113) rfl (xc_b fun ww hf => toSegment_c g.src g.dst g.seq g.ack g.flags g.window g.o.mss g.o.scale g.o.sack g.o.stamp g.o.val g.o.echo g.body ww) ?_
 intro _
 refine kA [4] ?_
 refine kSC 4 11 [.agg (conL c (.slice v35a c.r.held.length v35c)).toArray,.agg (segL g).toArray] (some 114) rfl (xc_r fun ww hw hf => yiReceive_c c (.slice v35a c.r.held.length v35c) g ww (Own.sl (hf _ m0)) (by assumption) (by omega) (by assumption) (by omega) w.heap.size hw) ?_
 rintro ⟨⟨v36a,v36c⟩,⟨v37a,v37c⟩⟩
 refine kTS [5,6,7,8] [117,116,115,16,6,7,8,10,11,14] 3 [(117,.v (.int .i64 ((received c g).2.2))),(116,.v (.slice v37a ((received c g).2.1.length) v37c)),(115,.v (.agg (conL (received c g).1 (.slice v36a ((received c g).1.r.held.length) v36c)).toArray)),(16,.p 5 0),(6,.p 2 0),(7,.v (.slice v6a ((received c g).2.1.length) v6c)),(8,.v (.int .i64 ((received c g).2.2))),(10,.p 4 0),(11,.v (.slice v16a ((received c g).2.1.length) v16c)),(14,.v (.int .i64 ((1 + 2 * (((received c g).1.r.held).length : Int)) + 13 * (((received c g).2.1).length : Int))))] ?_
 refine kA [10] ?_
 refine kSS 10 5 0 (conL (received c g).1 (.slice v36a ((received c g).1.r.held.length) v36c)) rfl ?_
 refine kTS [11,12] [18,17,16,6,7,8,10,11,14] 0 [(18,.v (.int .i64 ((received c g).2.2))),(17,.v (.slice v37a ((received c g).2.1.length) v37c)),(16,.p 5 0),(6,.p 2 0),(7,.v (.slice v6a ((received c g).2.1.length) v6c)),(8,.v (.int .i64 ((received c g).2.2))),(10,.p 4 0),(11,.v (.slice v16a ((received c g).2.1.length) v16c)),(14,.v (.int .i64 ((1 + 2 * (((received c g).1.r.held).length : Int)) + 13 * (((received c g).2.1).length : Int))))] ?_
 refine kZ ?_
 exact ⟨(v37a,v37c,v36a,v36c,v35a,v35c),kF 6 0 [6,7,8,10,11,14,16,17,18]⟩
 rintro ⟨v30a,v30c,v29a,v29c,v28a,v28c⟩
 refine kS ?_
 refine kQ ?_
 refine kCF 2 [7,8,10,11,14,17,18,118,119] ⟨[(7,.v (.slice v6a ((received c g).2.1.length) v6c)),(8,.v (.int .i64 ((received c g).2.2))),(10,.p 4 0),(11,.v (.slice v16a ((received c g).2.1.length) v16c)),(14,.v (.int .i64 ((1 + 2 * (((received c g).1.r.held).length : Int)) + 13 * (((received c g).2.1).length : Int)))),(17,.v (.slice v30a ((received c g).2.1.length) v30c)),(18,.v (.int .i64 ((received c g).2.2))),(118,.v (.agg (conL (received c g).1 (.slice v29a ((received c g).1.r.held.length) v29c)).toArray)),(119,.v (.agg (conL (received c g).1 (.slice v5a ((received c g).1.r.held.length) v5c)).toArray))],[⟨32,conL c (.slice Acrh c.r.held.length Ccrh)⟩,⟨34,segL g⟩,⟨44,conL (received c g).1 (.slice v5a ((received c g).1.r.held.length) v5c)⟩,⟨44,conL { c with r := { c.r with held := (marks mkP 2 1 c.r.held.length) } } (.slice v14a c.r.held.length v14c)⟩,⟨44,conL { (received c g).1 with r := { (received c g).1.r with held := (marks mkP 2 1 ((received c g).1.r.held).length) } } (.slice v15a ((received c g).1.r.held.length) v15c)⟩,⟨44,conL (received c g).1 (.slice v29a ((received c g).1.r.held.length) v29c)⟩],[],[ownF w.heap.size (.slice v29a ((received c g).1.r.held.length) v29c) 2 ((received c g).1.r.held.map pceCells),ownF w.heap.size (.slice v30a ((received c g).2.1.length) v30c) 13 ((received c g).2.1.map segCells),ownF w.heap.size (.slice v28a c.r.held.length v28c) 2 (c.r.held.map pceCells),ownF w.heap.size (.slice v16a ((received c g).2.1.length) v16c) 13 ((marks mkS 13 (1 + 2 * (((received c g).1.r.held).length : Int)) ((received c g).2.1).length).map segCells),ownF w.heap.size (.slice v15a ((received c g).1.r.held.length) v15c) 2 ((marks mkP 2 1 ((received c g).1.r.held).length).map pceCells),ownF w.heap.size (.slice v14a c.r.held.length v14c) 2 ((marks mkP 2 1 c.r.held.length).map pceCells),ownF w.heap.size (.slice v22a c.r.held.length v22c) 2 (c.r.held.map pceCells),ownF w.heap.size (.slice v5a ((received c g).1.r.held.length) v5c) 2 ((received c g).1.r.held.map pceCells),ownF w.heap.size (.slice v6a ((received c g).2.1.length) v6c) 13 ((received c g).2.1.map segCells),ownF w.heap.size (.slice v4a c.r.held.length v4c) 2 (c.r.held.map pceCells),slF (.slice Acrh c.r.held.length Ccrh) 2 (c.r.held.map pceCells)]⟩ 12 [.agg (conL (received c g).1 (.slice v29a ((received c g).1.r.held.length) v29c)).toArray,.agg (conL (received c g).1 (.slice v5a ((received c g).1.r.held.length) v5c)).toArray] (some 120) rfl (xc_b fun ww hf => eqConn_c ((received c g).1.t.ip) ((received c g).1.t.port) ((received c g).1.t.my) ((received c g).1.state) ((received c g).1.s.una) ((received c g).1.s.data) ((received c g).1.s.sent) ((received c g).1.s.fin) ((received c g).1.s.finSent) ((received c g).1.s.done) ((received c g).1.r.next) ((received c g).1.r.data) ((received c g).1.r.held) (.slice v29a ((received c g).1.r.held.length) v29c) ((received c g).1.r.fin) ((received c g).1.r.done) ((received c g).1.window) ((received c g).1.most) ((received c g).1.o.mss) ((received c g).1.o.scale) ((received c g).1.o.sack) ((received c g).1.o.stamp) ((received c g).1.o.val) ((received c g).1.o.echo) ((received c g).1.timer) ((received c g).1.tries) (.slice v5a ((received c g).1.r.held.length) v5c) ww (Own.sl (hf _ m0)) (Own.sl (hf _ m7))) ?_
 intro _
 refine kCS 4 [8,10,11,14,18,122,123,124] [(8,.v (.int .i64 ((received c g).2.2))),(10,.p 4 0),(11,.v (.slice v16a ((received c g).2.1.length) v16c)),(14,.v (.int .i64 ((1 + 2 * (((received c g).1.r.held).length : Int)) + 13 * (((received c g).2.1).length : Int)))),(18,.v (.int .i64 ((received c g).2.2))),(122,.v (.bool false)),(123,.v (.slice v30a ((received c g).2.1.length) v30c)),(124,.v (.slice v6a ((received c g).2.1.length) v6c))] 13 [.slice v30a ((received c g).2.1.length) v30c,.slice v6a ((received c g).2.1.length) v6c] (some 125) rfl (xc_b fun ww hf => yeqSegmentS_c ((received c g).2.1) (.slice v30a ((received c g).2.1.length) v30c) (.slice v6a ((received c g).2.1.length) v6c) ww (Own.sl (hf _ m1)) (Own.sl (hf (ownF w.heap.size (.slice v6a ((received c g).2.1.length) v6c) 13 ((received c g).2.1.map segCells)) (by simp))) ) ?_
 intro _
 refine kES [10,11,14,132] [(10,.p 4 0),(11,.v (.slice v16a ((received c g).2.1.length) v16c)),(14,.v (.int .i64 ((1 + 2 * (((received c g).1.r.held).length : Int)) + 13 * (((received c g).2.1).length : Int)))),(132,.v (.bool (((received c g).2.2) != ((received c g).2.2))))] ?_
 refine kC (((received c g).2.2) != ((received c g).2.2)) (fun h38 => ?_) (fun h38 => ?_)
 simp at h38
 have h38p := neF h38
 refine kK ?_
 refine kQ ?_
 refine kES [10,11,14,15] [(10,.p 4 0),(11,.v (.slice v16a ((received c g).2.1.length) v16c)),(14,.v (.int .i64 ((1 + 2 * (((received c g).1.r.held).length : Int)) + 13 * (((received c g).2.1).length : Int)))),(15,.v (.int .i64 1))] ?_
 refine kQ ?_
 refine kCS 2 [11,14,15,133,134] [(11,.v (.slice v16a ((received c g).2.1.length) v16c)),(14,.v (.int .i64 ((1 + 2 * (((received c g).1.r.held).length : Int)) + 13 * (((received c g).2.1).length : Int)))),(15,.v (.int .i64 1)),(133,.v (.agg (conL { (received c g).1 with r := { (received c g).1.r with held := (marks mkP 2 1 ((received c g).1.r.held).length) } } (.slice v15a ((received c g).1.r.held.length) v15c)).toArray)),(134,.v (.int .i64 1))] 16 [.agg (conL { (received c g).1 with r := { (received c g).1.r with held := (marks mkP 2 1 ((received c g).1.r.held).length) } } (.slice v15a ((received c g).1.r.held.length) v15c)).toArray,.int .i64 1] (some 135) rfl (xc_b fun ww hf => yheldConn_m ((received c g).1.r.held).length ((received c g).1.t.ip) ((received c g).1.t.port) ((received c g).1.t.my) ((received c g).1.state) ((received c g).1.s.una) ((received c g).1.s.data) ((received c g).1.s.sent) ((received c g).1.s.fin) ((received c g).1.s.finSent) ((received c g).1.s.done) ((received c g).1.r.next) ((received c g).1.r.data) ((received c g).1.r.fin) ((received c g).1.r.done) ((received c g).1.window) ((received c g).1.most) ((received c g).1.o.mss) ((received c g).1.o.scale) ((received c g).1.o.sack) ((received c g).1.o.stamp) ((received c g).1.o.val) ((received c g).1.o.echo) ((received c g).1.timer) ((received c g).1.tries) (.slice v15a ((received c g).1.r.held.length) v15c) 1 ww (Own.sl (hf _ m4)) (by omega) (by omega) (by omega)) ?_
 intro _
 refine kES [11,14,15] [(11,.v (.slice v16a ((received c g).2.1.length) v16c)),(14,.v (.int .i64 ((1 + 2 * (((received c g).1.r.held).length : Int)) + 13 * (((received c g).2.1).length : Int)))),(15,.v (.int .i64 (1 + 2 * (((received c g).1.r.held).length : Int))))] ?_
 refine kS ?_
 refine kQ ?_
 refine kES [11,14,15,137] [(11,.v (.slice v16a ((received c g).2.1.length) v16c)),(14,.v (.int .i64 ((1 + 2 * (((received c g).1.r.held).length : Int)) + 13 * (((received c g).2.1).length : Int)))),(15,.v (.int .i64 (1 + 2 * (((received c g).1.r.held).length : Int)))),(137,.v (.bool (decide ((1 + 2 * (((received c g).1.r.held).length : Int)) < 0))))] ?_
 refine kC (decide ((1 + 2 * (((received c g).1.r.held).length : Int)) < 0)) (fun h39 => ?_) (fun h39 => ?_)
 have h39p := of_decide_eq_true h39
 exfalso; have := of_decide_eq_true h39; omega
 have h39p := of_decide_eq_false h39
 refine kK ?_
 refine kQ ?_
 refine kCS 2 [14,15,138,139] [(14,.v (.int .i64 ((1 + 2 * (((received c g).1.r.held).length : Int)) + 13 * (((received c g).2.1).length : Int)))),(15,.v (.int .i64 (1 + 2 * (((received c g).1.r.held).length : Int)))),(138,.v (.slice v16a ((received c g).2.1.length) v16c)),(139,.v (.int .i64 (1 + 2 * (((received c g).1.r.held).length : Int))))] 17 [.slice v16a ((received c g).2.1.length) v16c,.int .i64 (1 + 2 * (((received c g).1.r.held).length : Int))] (some 140) rfl (xc_b fun ww hf => yheldSegmentS_m ((received c g).2.1).length  (.slice v16a ((received c g).2.1.length) v16c) (1 + 2 * (((received c g).1.r.held).length : Int)) ww (Own.sl (hf _ m3)) (by omega) (by omega) (by omega)) ?_
 intro _
 refine kES [14,15] [(14,.v (.int .i64 ((1 + 2 * (((received c g).1.r.held).length : Int)) + 13 * (((received c g).2.1).length : Int)))),(15,.v (.int .i64 ((1 + 2 * (((received c g).1.r.held).length : Int)) + 13 * (((received c g).2.1).length : Int))))] ?_
 refine kS ?_
 refine kQ ?_
 refine kES [14,15,142] [(14,.v (.int .i64 ((1 + 2 * (((received c g).1.r.held).length : Int)) + 13 * (((received c g).2.1).length : Int)))),(15,.v (.int .i64 ((1 + 2 * (((received c g).1.r.held).length : Int)) + 13 * (((received c g).2.1).length : Int)))),(142,.v (.bool (decide (((1 + 2 * (((received c g).1.r.held).length : Int)) + 13 * (((received c g).2.1).length : Int)) < 0))))] ?_
 refine kC (decide (((1 + 2 * (((received c g).1.r.held).length : Int)) + 13 * (((received c g).2.1).length : Int)) < 0)) (fun h40 => ?_) (fun h40 => ?_)
 have h40p := of_decide_eq_true h40
 exfalso; have := of_decide_eq_true h40; omega
 have h40p := of_decide_eq_false h40
 refine kK ?_
 refine kS ?_
 refine kQ ?_
 refine kES [145] [(145,.v (.bool (((1 + 2 * (((received c g).1.r.held).length : Int)) + 13 * (((received c g).2.1).length : Int)) != ((1 + 2 * (((received c g).1.r.held).length : Int)) + 13 * (((received c g).2.1).length : Int)))))] ?_
 refine kC (((1 + 2 * (((received c g).1.r.held).length : Int)) + 13 * (((received c g).2.1).length : Int)) != ((1 + 2 * (((received c g).1.r.held).length : Int)) + 13 * (((received c g).2.1).length : Int))) (fun h41 => ?_) (fun h41 => ?_)
 simp at h41
 have h41p := neF h41
 refine kK ?_
 refine kQ ?_
 refine kES [4] [(4,.v (.bool true))] ?_
 refine kR ?_
 exact ⟨[.bool true],by kernel_rfl,fun w' hb hf => ⟨rfl,hb⟩⟩

set_option maxRecDepth 100000 in
theorem fnExactReceive_lifted (os : Os) (started : os.Started) (H : Type) (enc : TypeId × Value → H) :
    ReturnsInHanded {} Tryz.checked os 3 .any (Rows.fnExactReceiveSpec.pre6 enc Tryz.prog Tryz.f3 Rows.fnExactReceiveRow.domain false) (Rows.fnExactReceiveSpec.post enc Tryz.prog Tryz.f3 false true false false) := by
  refine returnsInHanded_of_change (C := Tryz.checked) Tryz.ownK started (by kernel_rfl) Tryz.func3
    (ChangeSpec.witness6 (enc := enc) (C := Tryz.checked) false ⟨#[], #[.agg #[.int .i64 0, .int .i64 0, .int .i64 0, .int .i64 0, .int .i64 0, .string ⟨#[]⟩, .int .i64 0, .bool false, .bool false, .bool false, .int .i64 0, .string ⟨#[]⟩, .slice none 0 0, .int .i64 0, .bool false, .int .i64 0, .int .i64 0, .int .i64 0, .int .i64 0, .bool false, .bool false, .int .i64 0, .int .i64 0, .int .i64 0, .int .i64 0], .agg #[.int .i64 0, .int .i64 0, .int .i64 0, .int .i64 0, .int .i64 0, .int .i64 0, .int .i64 0, .int .i64 0, .bool false, .bool false, .int .i64 0, .int .i64 0, .string ⟨#[]⟩]], []⟩ 8 (by kernel_rfl) (by kernel_rfl) (by kernel_rfl) (by kernel_rfl)) ?_
  intro W base args ds gs before hval0 hW hcnd _
  have hval : ∀ (j : Nat) t v, Tryz.f3.params[j]? = some t → args[j]? = some v → Value.okWide Tryz.prog W .any base t v := hval0
  have hW' := hW
  obtain ⟨p, q, hA0, hV, rfl, hfz, hnd⟩ := hW
  have hA : DataW.TrodAll enc Tryz.prog W 0 (fun _ => true) true Tryz.f3.params.toList args.toList ds p := hA0
  rw [Tryz.params3] at hA hval
  obtain ⟨v0, vs0, d0, ds0, p0, q0, hargs, rfl, rfl, h0, r0⟩ := trodAll_cons hA
  obtain ⟨v1, vs1, d1, ds1, p1, q1, rfl, rfl, rfl, h1, r1⟩ := trodAll_cons r0
  obtain ⟨rfl, rfl, rfl⟩ := trodAll_nil r1
  obtain rfl : args = #[v0, v1] := by cases args; simp_all
  obtain ⟨rfl, rfl⟩ := trodVars_none hV
  clear hA0 hval0
  have g0 := h0
  have g1 := h1
  obtain ⟨cs0, rfl, -⟩ := okWide_struct Tryz.underlying32 (hval 0 _ v0 rfl rfl)
  obtain ⟨fuel0, f0⟩ := g0
  obtain ⟨c_t_ip, c_t_port, c_t_my, c_state, c_s_una, c_s_data, c_s_sent, c_s_fin, c_s_finSent, c_s_done, c_r_next, c_r_data, c_r_held_v, c_r_fin, c_r_done, c_window, c_most, c_o_mss, c_o_scale, c_o_sack, c_o_stamp, c_o_val, c_o_echo, c_timer, c_tries, e0, F_c_t_ip, F_c_t_port, F_c_t_my, F_c_state, F_c_s_una, F_c_s_data, F_c_s_sent, F_c_r_next, F_c_r_data, F_c_r_held, F_c_r_fin, F_c_window, F_c_most, F_c_o_mss, F_c_o_scale, F_c_o_val, F_c_o_echo, F_c_timer, F_c_tries⟩ := open_CON f0
  obtain rfl : cs0 = #[.int .i64 c_t_ip, .int .i64 c_t_port, .int .i64 c_t_my, .int .i64 c_state, .int .i64 c_s_una, .string c_s_data, .int .i64 c_s_sent, .bool c_s_fin, .bool c_s_finSent, .bool c_s_done, .int .i64 c_r_next, .string c_r_data, c_r_held_v, .int .i64 c_r_fin, .bool c_r_done, .int .i64 c_window, .int .i64 c_most, .int .i64 c_o_mss, .int .i64 c_o_scale, .bool c_o_sack, .bool c_o_stamp, .int .i64 c_o_val, .int .i64 c_o_echo, .int .i64 c_timer, .int .i64 c_tries] := by cases cs0; simpa [Value.cells] using e0
  clear e0
  obtain ⟨_, _, T_c_r_held⟩ := F_c_r_held
  obtain ⟨c_r_held, L_c_r_held, M_c_r_held⟩ := openSc_PCE T_c_r_held
  obtain ⟨cs1, rfl, -⟩ := okWide_struct Tryz.underlying34 (hval 1 _ v1 rfl rfl)
  obtain ⟨fuel1, f1⟩ := g1
  obtain ⟨g_src, g_dst, g_seq, g_ack, g_flags, g_window, g_o_mss, g_o_scale, g_o_sack, g_o_stamp, g_o_val, g_o_echo, g_body, e1, F_g_src, F_g_dst, F_g_seq, F_g_ack, F_g_flags, F_g_window, F_g_o_mss, F_g_o_scale, F_g_o_val, F_g_o_echo, F_g_body⟩ := open_SEG f1
  obtain rfl : cs1 = #[.int .i64 g_src, .int .i64 g_dst, .int .i64 g_seq, .int .i64 g_ack, .int .i64 g_flags, .int .i64 g_window, .int .i64 g_o_mss, .int .i64 g_o_scale, .bool g_o_sack, .bool g_o_stamp, .int .i64 g_o_val, .int .i64 g_o_echo, .string g_body] := by cases cs1; simpa [Value.cells] using e1
  clear e1
  refine (fnExactReceive_walk (⟨⟨c_t_ip, c_t_port, c_t_my⟩, c_state, ⟨c_s_una, c_s_data, c_s_sent, c_s_fin, c_s_finSent, c_s_done⟩, ⟨c_r_next, c_r_data, c_r_held, c_r_fin, c_r_done⟩, c_window, c_most, ⟨c_o_mss, c_o_scale, c_o_sack, c_o_stamp, c_o_val, c_o_echo⟩, c_timer, c_tries⟩ : Con) c_r_held_v (⟨g_src, g_dst, g_seq, g_ack, g_flags, g_window, ⟨g_o_mss, g_o_scale, g_o_sack, g_o_stamp, g_o_val, g_o_echo⟩, g_body⟩ : Seg) W F_c_s_data F_c_r_data L_c_r_held M_c_r_held F_g_body).mono fun e W' ⟨he, hb⟩ => ?_
  subst he
  have hlt : ∀ x ∈ (p0 ++ (p1 ++ ([]))) ++ [], x.block < W.heap.size := fun x hx => hW'.lt x hx
  refine ⟨_, rfl, post_of_below (pa := (p0 ++ (p1 ++ ([])))) (pv := []) hW' (fun _ _ _ => trodAll_cons_mk (shut_bool Tryz.underlying4 _) trodAll_mk0) (fun sp hsp => trodAll_cons_mk (WideElems.Trod_stays Tryz.laidOut (by kernel_rfl) (of_decide_eq_true (by kernel_rfl)) h0 (fun x hx => hb.same (hlt x (List.mem_append_left _ (List.mem_append_left _ hx)))) (fun x hx => hsp x (List.mem_append_left _ (List.mem_append_left _ hx)))) (trodAll_cons_mk (WideElems.Trod_stays Tryz.laidOut (by kernel_rfl) (of_decide_eq_true (by kernel_rfl)) h1 (fun x hx => hb.same (hlt x (List.mem_append_left _ (List.mem_append_right _ (List.mem_append_left _ hx))))) (fun x hx => hsp x (List.mem_append_left _ (List.mem_append_right _ (List.mem_append_left _ hx))))) (trodAll_mk0))) (fun _ _ => rfl) rfl hb (ok_one (by kernel_rfl) rfl (okWide_bool_mk Tryz.underlying4 _))⟩

theorem fnExactReceive_over : Rows.fnExactReceiveRow.holds Tryz.pinned (OpenSpec.ofChange Rows.fnExactReceiveSpec) :=
  OpenClaim.holds_of_wide 3 Tryz.f3 rfl rfl rfl rfl rfl rfl rfl ⟨rfl, rfl, rfl, rfl, rfl⟩ rfl rfl rfl rfl rfl (by kernel_rfl) Tryz.func3 (by kernel_rfl)
    (of_decide_eq_true (by kernel_rfl)) (by unfold Func.isWrapper; first | (rw [if_pos (by decide +kernel)]; kernel_rfl) | (rw [if_neg (by decide +kernel)]; exact ⟨rfl, rfl⟩))
    (fun os started H enc _ => fnExactReceive_lifted os started H enc)

theorem fnExactReceive_holds : Rows.FnExactReceiveSaid := fnExactReceive_over
#print axioms fnExactReceive_holds
end Go.Proofs.YtebgmdiejgcoiaaGreat
