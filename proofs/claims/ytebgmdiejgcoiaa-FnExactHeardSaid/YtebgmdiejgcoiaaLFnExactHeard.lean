/- The law FnExactHeard holds: for every argument the program's function answers true and leaves its arguments as they were. Conditions: none beyond the given row's. -/
import Derived.Test.YtebgmdiejgcoiaaZ2
import Derived.Test.YtebgmdiejgcoiaaG3
namespace Go.Proofs.Ytebgmdiejgcoiaa
open Go.RowKit Go.ChangeShapes Go.WideShapes Go.ChangeAt
set_option linter.unusedVariables false
set_option linter.unusedSimpArgs false

set_option maxRecDepth 100000 in
set_option maxHeartbeats 2000000 in
theorem fnExactHeard_walk (c : Con) (c_r_heldV : Value) (g : Seg) (w : World) (hs_c_s_data : c.s.data.size ≤ maxLen) (hs_c_r_data : c.r.data.size ≤ maxLen) (hl_c_r_heldV : Sl w c_r_heldV 2 (c.r.held.map pceCells)) (hm_c_r_heldV : ∀ p ∈ c.r.held, p.text.size ≤ maxLen) (hs_g_body : g.body.size ≤ maxLen) : Calls Try.prog 4 #[.agg (conL c c_r_heldV).toArray, .agg (segL g).toArray] w fun e w' => e = .returned (.bool true) ∧ Below w.heap.size w w' := by
 obtain ⟨Acrh,Ccrh,hvcrh⟩ := hl_c_r_heldV.form
 rw [List.length_map] at hvcrh; subst hvcrh
 have hncrh := hl_c_r_heldV.len; rw [List.length_map] at hncrh
 have hqcrh := Sl.capLe hl_c_r_heldV
 refine x_calls (args := [.agg (conL c (.slice Acrh c.r.held.length Ccrh)).toArray,.agg (segL g).toArray]) (fn := Try.f4) [slF (.slice Acrh c.r.held.length Ccrh) 2 (c.r.held.map pceCells)] Try.func4 rfl Try.ntmps4 rfl (by simp only [List.mem_cons,List.not_mem_nil,or_false,forall_eq_or_imp,forall_eq]; exact ⟨rfl,hl_c_r_heldV⟩) ?_
 refine kQ ?_
 refine kEF [2,3] ⟨[(2,.p 0 0),(3,.p 1 0)],[⟨41,conL c (.slice Acrh c.r.held.length Ccrh)⟩,⟨43,segL g⟩],[],[slF (.slice Acrh c.r.held.length Ccrh) 2 (c.r.held.map pceCells)]⟩ ?_
 refine kQ ?_
 refine kES [2,3,5] [(2,.p 0 0),(3,.p 1 0),(5,.v (.int .i64 1048576))] ?_
 refine kQ ?_
 refine kCS 2 [2,3,5,13,14] [(2,.p 0 0),(3,.p 1 0),(5,.v (.int .i64 1048576)),(13,.v (.agg (conL c (.slice Acrh c.r.held.length Ccrh)).toArray)),(14,.v (.int .i64 1048576))] 13 [.agg (conL c (.slice Acrh c.r.held.length Ccrh)).toArray,.int .i64 1048576] (some 15) rfl (xc_e (α := Int) (F := fun y => .int .i64 y) (p := fun r => r = -1 ∨ (0 ≤ r ∧ r ≤ 1048576 ∧ ConFit 1048576 c)) fun ww hf => szConn_c c.t.ip c.t.port c.t.my c.state c.s.una c.s.data c.s.sent c.s.fin c.s.finSent c.s.done c.r.next c.r.data c.r.held (.slice Acrh c.r.held.length Ccrh) c.r.fin c.r.done c.window c.most c.o.mss c.o.scale c.o.sack c.o.stamp c.o.val c.o.echo c.timer c.tries 1048576 ww (hf _ m0) hm_c_r_heldV (by omega) (by omega) hs_c_r_data hs_c_s_data) ?_
 rintro ⟨r1,hr1⟩
 refine kES [2,3,5] [(2,.p 0 0),(3,.p 1 0),(5,.v (.int .i64 r1))] ?_
 refine kS ?_
 refine kQ ?_
 refine kES [2,3,5,17] [(2,.p 0 0),(3,.p 1 0),(5,.v (.int .i64 r1)),(17,.v (.bool (decide (r1 < 0))))] ?_
 refine kC (decide (r1 < 0)) (fun h2 => ?_) (fun h2 => ?_)
 have h2p := of_decide_eq_true h2
 refine kQ ?_
 refine kES [4] [(4,.v (.bool true))] ?_
 refine kR ?_
 exact ⟨[.bool true],by kernel_rfl,fun w' hb hf => ⟨rfl,hb⟩⟩
 have h2p := of_decide_eq_false h2
 rcases hr1 with hr1 | ⟨hr1a,hr1b,hr1c⟩
 · omega
 obtain ⟨hr11,hr12,hr13,hr14⟩ := hr1c
 have hknr1 : c.r.held.length ≤ 1048576 := by omega
 have hmr1 : ∀ p ∈ c.r.held,p.text.size ≤ 1048576 := fun p hp => by have := hr14 p hp; omega
 refine kK ?_
 refine kQ ?_
 refine kCS 2 [2,3,5,18,19] [(2,.p 0 0),(3,.p 1 0),(5,.v (.int .i64 r1)),(18,.v (.agg (segL g).toArray)),(19,.v (.int .i64 r1))] 14 [.agg (segL g).toArray,.int .i64 r1] (some 20) rfl (xc_b fun ww hf => szSegment_c g.src g.dst g.seq g.ack g.flags g.window g.o.mss g.o.scale g.o.sack g.o.stamp g.o.val g.o.echo g.body r1 ww (by omega) (by omega) hs_g_body) ?_
 intro _
 refine kES [2,3,5] [(2,.p 0 0),(3,.p 1 0),(5,.v (.int .i64 (if (r1 : Int) < g.body.size then -1 else (r1 : Int) - g.body.size)))] ?_
 refine kS ?_
 refine kQ ?_
 refine kES [2,3,22] [(2,.p 0 0),(3,.p 1 0),(22,.v (.bool (decide ((if (r1 : Int) < g.body.size then -1 else (r1 : Int) - g.body.size) < 0))))] ?_
 refine kC (decide ((if (r1 : Int) < g.body.size then -1 else (r1 : Int) - g.body.size) < 0)) (fun h3 => ?_) (fun h3 => ?_)
 have h3p := of_decide_eq_true h3
 refine kQ ?_
 refine kES [4] [(4,.v (.bool true))] ?_
 refine kR ?_
 exact ⟨[.bool true],by kernel_rfl,fun w' hb hf => ⟨rfl,hb⟩⟩
 have h3p := of_decide_eq_false h3
 have hsz_g : g.body.size ≤ 1048576 := by by_cases hh : r1 < (g.body.size : Int) <;> simp [hh] at h3; omega
 obtain ⟨hza,hzb,hzc⟩ := heard_sz (H := 1048576) (T := 1048576) (D := 4611686018427387904) (c := c) (g := g) (by omega) (by assumption) (by omega) (by omega) (by omega) (by omega)
 refine kK ?_
 refine kS ?_
 refine xw_joinE (α := Option Addr × Nat × Option Addr × Nat) (fun y => (fun (v5a : Option Addr) (v5c : Nat) (v4a : Option Addr) (v4c : Nat) => (⟨[(2,.p 0 0),(3,.p 1 0),(6,.p 2 0)],[⟨41,conL c (.slice Acrh c.r.held.length Ccrh)⟩,⟨43,segL g⟩,⟨50,conL (heard c g) (.slice v5a ((heard c g).r.held.length) v5c)⟩],[],[ownF w.heap.size (.slice v5a ((heard c g).r.held.length) v5c) 2 ((heard c g).r.held.map pceCells),ownF w.heap.size (.slice v4a c.r.held.length v4c) 2 (c.r.held.map pceCells),slF (.slice Acrh c.r.held.length Ccrh) 2 (c.r.held.map pceCells)]⟩ : St)) y.1 y.2.1 y.2.2.1 y.2.2.2) ?_ ?_
 refine xe_region [] (by kernel_rfl) (fun ρ σ => ?_)
 refine kTS [0,2] [25,23,2,3] 5 [(25,.v (.agg (segL g).toArray)),(23,.v (.agg (conL c (.slice Acrh c.r.held.length Ccrh)).toArray)),(2,.p 0 0),(3,.p 1 0)] ?_
 refine kA [1,5] ⟨?_,?_⟩
 refine kSC 1 16 [.agg (conL c (.slice Acrh c.r.held.length Ccrh)).toArray] (some 24) rfl (xc_on (m := c.r.held.length) (F := fun v' => .agg (conL c v').toArray) (List.length_map ..) fun ww hf => toConn_c c.t.ip c.t.port c.t.my c.state c.s.una c.s.data c.s.sent c.s.fin c.s.finSent c.s.done c.r.next c.r.data c.r.held (.slice Acrh c.r.held.length Ccrh) c.r.fin c.r.done c.window c.most c.o.mss c.o.scale c.o.sack c.o.stamp c.o.val c.o.echo c.timer c.tries ww (hf _ m0) (by omega)) ?_
 rintro ⟨v4a,v4c⟩
 refine kA [3,5] ⟨?_,?_⟩
 refine kSC 3 17 [.agg (segL g).toArray] (some 26) rfl (xc_b fun ww hf => toSegment_c g.src g.dst g.seq g.ack g.flags g.window g.o.mss g.o.scale g.o.sack g.o.stamp g.o.val g.o.echo g.body ww) ?_
 intro _
 refine kA [4,5] ⟨?_,?_⟩
 refine kSC 4 15 [.agg (conL c (.slice v4a c.r.held.length v4c)).toArray,.agg (segL g).toArray] (some 27) rfl (xc_r fun ww hw hf => ysHeard_c c (.slice v4a c.r.held.length v4c) g ww (Own.sl (hf _ m0)) (by assumption) (by omega) (by assumption) (by omega) w.heap.size hw) ?_
 rintro ⟨v5a,v5c⟩
 refine kA [5] ?_
 refine xs_box 5 ⟨50,conZ⟩ _ rfl (by kernel_rfl) (by kernel_rfl) (by kernel_rfl) (by kernel_rfl) rfl ?_
 refine kA [6] ?_
 refine kSS 6 2 0 (conL (heard c g) (.slice v5a ((heard c g).r.held.length) v5c)) rfl ?_
 refine kZ ?_
 exact ⟨(v5a,v5c,v4a,v4c),kF 3 0 [2,3,6]⟩
 refine xs_box 5 ⟨50,conZ⟩ _ rfl (by kernel_rfl) (by kernel_rfl) (by kernel_rfl) (by kernel_rfl) rfl ?_
 refine kA [4] ?_
 refine kSC 4 15 [.agg (conL c (.slice v4a c.r.held.length v4c)).toArray,.agg (segL g).toArray] (some 27) rfl (xc_r fun ww hw hf => ysHeard_c c (.slice v4a c.r.held.length v4c) g ww (Own.sl (hf _ m0)) (by assumption) (by omega) (by assumption) (by omega) w.heap.size hw) ?_
 rintro ⟨v6a,v6c⟩
 refine kA [6] ?_
 refine kSS 6 2 0 (conL (heard c g) (.slice v6a ((heard c g).r.held.length) v6c)) rfl ?_
 refine kZ ?_
 exact ⟨(v6a,v6c,v4a,v4c),kF 3 0 [2,3,6]⟩
 refine xs_box 5 ⟨50,conZ⟩ _ rfl (by kernel_rfl) (by kernel_rfl) (by kernel_rfl) (by kernel_rfl) rfl ?_
 refine kA [3] ?_
 refine kSC 3 17 [.agg (segL g).toArray] (some 26) rfl (xc_b fun ww hf => toSegment_c g.src g.dst g.seq g.ack g.flags g.window g.o.mss g.o.scale g.o.sack g.o.stamp g.o.val g.o.echo g.body ww) ?_
 intro _
 refine kA [4] ?_
 refine kSC 4 15 [.agg (conL c (.slice v4a c.r.held.length v4c)).toArray,.agg (segL g).toArray] (some 27) rfl (xc_r fun ww hw hf => ysHeard_c c (.slice v4a c.r.held.length v4c) g ww (Own.sl (hf _ m0)) (by assumption) (by omega) (by assumption) (by omega) w.heap.size hw) ?_
 rintro ⟨v7a,v7c⟩
 refine kA [6] ?_
 refine kSS 6 2 0 (conL (heard c g) (.slice v7a ((heard c g).r.held.length) v7c)) rfl ?_
 refine kZ ?_
 exact ⟨(v7a,v7c,v4a,v4c),kF 3 0 [2,3,6]⟩
 refine xs_box 5 ⟨50,conZ⟩ _ rfl (by kernel_rfl) (by kernel_rfl) (by kernel_rfl) (by kernel_rfl) rfl ?_
 refine kA [1] ?_
 refine kSC 1 16 [.agg (conL c (.slice Acrh c.r.held.length Ccrh)).toArray] (some 24) rfl (xc_on (m := c.r.held.length) (F := fun v' => .agg (conL c v').toArray) (List.length_map ..) fun ww hf => toConn_c c.t.ip c.t.port c.t.my c.state c.s.una c.s.data c.s.sent c.s.fin c.s.finSent c.s.done c.r.next c.r.data c.r.held (.slice Acrh c.r.held.length Ccrh) c.r.fin c.r.done c.window c.most c.o.mss c.o.scale c.o.sack c.o.stamp c.o.val c.o.echo c.timer c.tries ww (hf _ m0) (by omega)) ?_
 rintro ⟨v8a,v8c⟩
 refine kA [3] ?_
 refine kSC 3 17 [.agg (segL g).toArray] (some 26) rfl (xc_b fun ww hf => toSegment_c g.src g.dst g.seq g.ack g.flags g.window g.o.mss g.o.scale g.o.sack g.o.stamp g.o.val g.o.echo g.body ww) ?_
 intro _
 refine kA [4] ?_
 refine kSC 4 15 [.agg (conL c (.slice v8a c.r.held.length v8c)).toArray,.agg (segL g).toArray] (some 27) rfl (xc_r fun ww hw hf => ysHeard_c c (.slice v8a c.r.held.length v8c) g ww (Own.sl (hf _ m0)) (by assumption) (by omega) (by assumption) (by omega) w.heap.size hw) ?_
 rintro ⟨v9a,v9c⟩
 refine kA [6] ?_
 refine kSS 6 2 0 (conL (heard c g) (.slice v9a ((heard c g).r.held.length) v9c)) rfl ?_
 refine kZ ?_
 exact ⟨(v9a,v9c,v8a,v8c),kF 3 0 [2,3,6]⟩
 rintro ⟨v5a,v5c,v4a,v4c⟩
 refine kQ ?_
 refine kCF 1 [2,3,6,28] ⟨[(2,.p 0 0),(3,.p 1 0),(6,.p 2 0),(28,.v (.agg (conL c (.slice Acrh c.r.held.length Ccrh)).toArray))],[⟨41,conL c (.slice Acrh c.r.held.length Ccrh)⟩,⟨43,segL g⟩,⟨50,conL (heard c g) (.slice v5a ((heard c g).r.held.length) v5c)⟩],[],[ownF w.heap.size (.slice v5a ((heard c g).r.held.length) v5c) 2 ((heard c g).r.held.map pceCells),ownF w.heap.size (.slice v4a c.r.held.length v4c) 2 (c.r.held.map pceCells),slF (.slice Acrh c.r.held.length Ccrh) 2 (c.r.held.map pceCells)]⟩ 16 [.agg (conL c (.slice Acrh c.r.held.length Ccrh)).toArray] (some 29) rfl (xc_on (m := c.r.held.length) (F := fun v' => .agg (conL c v').toArray) (List.length_map ..) fun ww hf => toConn_c c.t.ip c.t.port c.t.my c.state c.s.una c.s.data c.s.sent c.s.fin c.s.finSent c.s.done c.r.next c.r.data c.r.held (.slice Acrh c.r.held.length Ccrh) c.r.fin c.r.done c.window c.most c.o.mss c.o.scale c.o.sack c.o.stamp c.o.val c.o.echo c.timer c.tries ww (hf _ m2) (by omega)) ?_
 rintro ⟨v10a,v10c⟩
 refine kEF [2,3,6,7] ⟨[(2,.p 0 0),(3,.p 1 0),(6,.p 2 0),(7,.p 3 0)],[⟨41,conL c (.slice Acrh c.r.held.length Ccrh)⟩,⟨43,segL g⟩,⟨50,conL (heard c g) (.slice v5a ((heard c g).r.held.length) v5c)⟩,⟨50,conL c (.slice v10a c.r.held.length v10c)⟩],[],[ownF w.heap.size (.slice v10a c.r.held.length v10c) 2 (c.r.held.map pceCells),ownF w.heap.size (.slice v5a ((heard c g).r.held.length) v5c) 2 ((heard c g).r.held.map pceCells),ownF w.heap.size (.slice v4a c.r.held.length v4c) 2 (c.r.held.map pceCells),slF (.slice Acrh c.r.held.length Ccrh) 2 (c.r.held.map pceCells)]⟩ ?_
 refine kS ?_
 refine xw_joinE (α := Option Addr × Nat) (fun y => (fun (v11a : Option Addr) (v11c : Nat) => (⟨[(2,.p 0 0),(3,.p 1 0),(6,.p 2 0),(7,.p 3 0),(8,.p 4 0)],[⟨41,conL c (.slice Acrh c.r.held.length Ccrh)⟩,⟨43,segL g⟩,⟨50,conL (heard c g) (.slice v5a ((heard c g).r.held.length) v5c)⟩,⟨50,conL c (.slice v10a c.r.held.length v10c)⟩,⟨50,conL (heard c g) (.slice v11a ((heard c g).r.held.length) v11c)⟩],[],[ownF w.heap.size (.slice v11a ((heard c g).r.held.length) v11c) 2 ((heard c g).r.held.map pceCells),ownF w.heap.size (.slice v10a c.r.held.length v10c) 2 (c.r.held.map pceCells),ownF w.heap.size (.slice v5a ((heard c g).r.held.length) v5c) 2 ((heard c g).r.held.map pceCells),ownF w.heap.size (.slice v4a c.r.held.length v4c) 2 (c.r.held.map pceCells),slF (.slice Acrh c.r.held.length Ccrh) 2 (c.r.held.map pceCells)]⟩ : St)) y.1 y.2) ?_ ?_
 refine xe_region [] (by kernel_rfl) (fun ρ σ => ?_)
 refine kTS [0,1] [31,30,2,3,6,7] 4 [(31,.v (.agg (segL g).toArray)),(30,.v (.agg (conL c (.slice v10a c.r.held.length v10c)).toArray)),(2,.p 0 0),(3,.p 1 0),(6,.p 2 0),(7,.p 3 0)] ?_
 refine kA [2,4] ⟨?_,?_⟩
 refine kSC 2 17 [.agg (segL g).toArray] (some 32) rfl (xc_b fun ww hf => toSegment_c g.src g.dst g.seq g.ack g.flags g.window g.o.mss g.o.scale g.o.sack g.o.stamp g.o.val g.o.echo g.body ww) ?_
 intro _
 refine kA [3,4] ⟨?_,?_⟩
 refine kSC 3 18 [.agg (conL c (.slice v10a c.r.held.length v10c)).toArray,.agg (segL g).toArray] (some 33) rfl (xc_r fun ww hw hf => yiHeard_c c (.slice v10a c.r.held.length v10c) g ww (Own.sl (hf _ m0)) (by assumption) (by omega) (by assumption) (by omega) w.heap.size hw) ?_
 rintro ⟨v11a,v11c⟩
 refine kA [4] ?_
 refine xs_box 4 ⟨50,conZ⟩ _ rfl (by kernel_rfl) (by kernel_rfl) (by kernel_rfl) (by kernel_rfl) rfl ?_
 refine kA [5] ?_
 refine kSS 5 4 0 (conL (heard c g) (.slice v11a ((heard c g).r.held.length) v11c)) rfl ?_
 refine kZ ?_
 exact ⟨(v11a,v11c),kF 5 0 [2,3,6,7,8]⟩
 refine xs_box 4 ⟨50,conZ⟩ _ rfl (by kernel_rfl) (by kernel_rfl) (by kernel_rfl) (by kernel_rfl) rfl ?_
 refine kA [3] ?_
 refine kSC 3 18 [.agg (conL c (.slice v10a c.r.held.length v10c)).toArray,.agg (segL g).toArray] (some 33) rfl (xc_r fun ww hw hf => yiHeard_c c (.slice v10a c.r.held.length v10c) g ww (Own.sl (hf _ m0)) (by assumption) (by omega) (by assumption) (by omega) w.heap.size hw) ?_
 rintro ⟨v12a,v12c⟩
 refine kA [5] ?_
 refine kSS 5 4 0 (conL (heard c g) (.slice v12a ((heard c g).r.held.length) v12c)) rfl ?_
 refine kZ ?_
 exact ⟨(v12a,v12c),kF 5 0 [2,3,6,7,8]⟩
 refine xs_box 4 ⟨50,conZ⟩ _ rfl (by kernel_rfl) (by kernel_rfl) (by kernel_rfl) (by kernel_rfl) rfl ?_
 refine kA [2] ?_
 refine kSC 2 17 [.agg (segL g).toArray] (some 32) rfl (xc_b fun ww hf => toSegment_c g.src g.dst g.seq g.ack g.flags g.window g.o.mss g.o.scale g.o.sack g.o.stamp g.o.val g.o.echo g.body ww) ?_
 intro _
 refine kA [3] ?_
 refine kSC 3 18 [.agg (conL c (.slice v10a c.r.held.length v10c)).toArray,.agg (segL g).toArray] (some 33) rfl (xc_r fun ww hw hf => yiHeard_c c (.slice v10a c.r.held.length v10c) g ww (Own.sl (hf _ m0)) (by assumption) (by omega) (by assumption) (by omega) w.heap.size hw) ?_
 rintro ⟨v13a,v13c⟩
 refine kA [5] ?_
 refine kSS 5 4 0 (conL (heard c g) (.slice v13a ((heard c g).r.held.length) v13c)) rfl ?_
 refine kZ ?_
 exact ⟨(v13a,v13c),kF 5 0 [2,3,6,7,8]⟩
 rintro ⟨v11a,v11c⟩
 refine kS ?_
 refine kQ ?_
 refine kCF 2 [2,3,6,7,8,34,35] ⟨[(2,.p 0 0),(3,.p 1 0),(6,.p 2 0),(7,.p 3 0),(8,.p 4 0),(34,.v (.agg (conL (heard c g) (.slice v11a ((heard c g).r.held.length) v11c)).toArray)),(35,.v (.agg (conL (heard c g) (.slice v5a ((heard c g).r.held.length) v5c)).toArray))],[⟨41,conL c (.slice Acrh c.r.held.length Ccrh)⟩,⟨43,segL g⟩,⟨50,conL (heard c g) (.slice v5a ((heard c g).r.held.length) v5c)⟩,⟨50,conL c (.slice v10a c.r.held.length v10c)⟩,⟨50,conL (heard c g) (.slice v11a ((heard c g).r.held.length) v11c)⟩],[],[ownF w.heap.size (.slice v11a ((heard c g).r.held.length) v11c) 2 ((heard c g).r.held.map pceCells),ownF w.heap.size (.slice v10a c.r.held.length v10c) 2 (c.r.held.map pceCells),ownF w.heap.size (.slice v5a ((heard c g).r.held.length) v5c) 2 ((heard c g).r.held.map pceCells),ownF w.heap.size (.slice v4a c.r.held.length v4c) 2 (c.r.held.map pceCells),slF (.slice Acrh c.r.held.length Ccrh) 2 (c.r.held.map pceCells)]⟩ 19 [.agg (conL (heard c g) (.slice v11a ((heard c g).r.held.length) v11c)).toArray,.agg (conL (heard c g) (.slice v5a ((heard c g).r.held.length) v5c)).toArray] (some 36) rfl (xc_b fun ww hf => eqConn_c ((heard c g).t.ip) ((heard c g).t.port) ((heard c g).t.my) ((heard c g).state) ((heard c g).s.una) ((heard c g).s.data) ((heard c g).s.sent) ((heard c g).s.fin) ((heard c g).s.finSent) ((heard c g).s.done) ((heard c g).r.next) ((heard c g).r.data) ((heard c g).r.held) (.slice v11a ((heard c g).r.held.length) v11c) ((heard c g).r.fin) ((heard c g).r.done) ((heard c g).window) ((heard c g).most) ((heard c g).o.mss) ((heard c g).o.scale) ((heard c g).o.sack) ((heard c g).o.stamp) ((heard c g).o.val) ((heard c g).o.echo) ((heard c g).timer) ((heard c g).tries) (.slice v5a ((heard c g).r.held.length) v5c) ww (Own.sl (hf _ m0)) (Own.sl (hf _ m2))) ?_
 intro _
 refine kES [2,3,6,7,8,37] [(2,.p 0 0),(3,.p 1 0),(6,.p 2 0),(7,.p 3 0),(8,.p 4 0),(37,.v (.bool false))] ?_
 refine kN ?_
 refine kK ?_
 refine kS ?_
 refine kS ?_
 refine xe_region [] (by kernel_rfl) (fun ρ σ => ?_)
 refine kTS [0,1] [39,38,2,3,6,7,8] 3 [(39,.v (.agg (conL c (.slice Acrh c.r.held.length Ccrh)).toArray)),(38,.v (.agg (conL c (.slice v10a c.r.held.length v10c)).toArray)),(2,.p 0 0),(3,.p 1 0),(6,.p 2 0),(7,.p 3 0),(8,.p 4 0)] ?_
 refine kA [2] ?_
 refine kSC 2 16 [.agg (conL c (.slice Acrh c.r.held.length Ccrh)).toArray] (some 40) rfl (xc_on (m := c.r.held.length) (F := fun v' => .agg (conL c v').toArray) (List.length_map ..) fun ww hf => toConn_c c.t.ip c.t.port c.t.my c.state c.s.una c.s.data c.s.sent c.s.fin c.s.finSent c.s.done c.r.next c.r.data c.r.held (.slice Acrh c.r.held.length Ccrh) c.r.fin c.r.done c.window c.most c.o.mss c.o.scale c.o.sack c.o.stamp c.o.val c.o.echo c.timer c.tries ww (hf _ m4) (by omega)) ?_
 rintro ⟨v14a,v14c⟩
 refine kA [3] ?_
 refine kSC 3 19 [.agg (conL c (.slice v10a c.r.held.length v10c)).toArray,.agg (conL c (.slice v14a c.r.held.length v14c)).toArray] (some 41) rfl (xc_b fun ww hf => eqConn_c c.t.ip c.t.port c.t.my c.state c.s.una c.s.data c.s.sent c.s.fin c.s.finSent c.s.done c.r.next c.r.data c.r.held (.slice v10a c.r.held.length v10c) c.r.fin c.r.done c.window c.most c.o.mss c.o.scale c.o.sack c.o.stamp c.o.val c.o.echo c.timer c.tries (.slice v14a c.r.held.length v14c) ww (Own.sl (hf _ m2)) (Own.sl (hf _ m0))) ?_
 intro _
 refine kTS [4] [42,2,3,6,7,8] 0 [(42,.v (.bool false)),(2,.p 0 0),(3,.p 1 0),(6,.p 2 0),(7,.p 3 0),(8,.p 4 0)] ?_
 refine kZ ?_
 refine kN ?_
 refine kK ?_
 refine kQ ?_
 refine kES [2,3,6,7,8,9] [(2,.p 0 0),(3,.p 1 0),(6,.p 2 0),(7,.p 3 0),(8,.p 4 0),(9,.v (.int .i64 1))] ?_
 refine kQ ?_
 refine kWS 2 [2,3,6,8,9,43,44] [(2,.p 0 0),(3,.p 1 0),(6,.p 2 0),(8,.p 4 0),(9,.v (.int .i64 1)),(43,.v (.agg (conL c (.slice v10a c.r.held.length v10c)).toArray)),(44,.v (.int .i64 1))] 20 [.agg (conL c (.slice v10a c.r.held.length v10c)).toArray,.int .i64 1] (some 45) 2 rfl rfl (fun ww b h hb => vblk_lo h hb) (xcm_own marks_ne fun ww hw hf => ymarkConn_c c (.slice v10a c.r.held.length v10c) 1 ww w.heap.size hw (hf (ownF w.heap.size (.slice v10a c.r.held.length v10c) 2 (c.r.held.map pceCells)) (by simp)) (by omega) (by omega) (by omega)) ?_
 intro _
 refine kES [2,3,6,8,9] [(2,.p 0 0),(3,.p 1 0),(6,.p 2 0),(8,.p 4 0),(9,.v (.int .i64 (1 + 2 * (c.r.held.length : Int))))] ?_
 refine kS ?_
 refine kQ ?_
 refine kRS 3 [2,3,6,8,48] [(2,.p 0 0),(3,.p 1 0),(6,.p 2 0),(8,.p 4 0),(48,.v (.bool (decide ((1 + 2 * (c.r.held.length : Int)) < 0))))] ?_
 refine kP 48 (decide ((1 + 2 * (c.r.held.length : Int)) < 0)) (fun h15 => ?_) (fun h15 => ?_)
 have h15p := of_decide_eq_true h15
 exfalso; have := of_decide_eq_true h15; omega
 have h15p := of_decide_eq_false h15
 refine kCS 2 [2,3,6,8,48,49,50] [(2,.p 0 0),(3,.p 1 0),(6,.p 2 0),(8,.p 4 0),(48,.v (.bool false)),(49,.v (.agg (conL (heard c g) (.slice v11a ((heard c g).r.held.length) v11c)).toArray)),(50,.v (.agg (conL (heard c g) (.slice v5a ((heard c g).r.held.length) v5c)).toArray))] 19 [.agg (conL (heard c g) (.slice v11a ((heard c g).r.held.length) v11c)).toArray,.agg (conL (heard c g) (.slice v5a ((heard c g).r.held.length) v5c)).toArray] (some 51) rfl (xc_b fun ww hf => eqConn_c ((heard c g).t.ip) ((heard c g).t.port) ((heard c g).t.my) ((heard c g).state) ((heard c g).s.una) ((heard c g).s.data) ((heard c g).s.sent) ((heard c g).s.fin) ((heard c g).s.finSent) ((heard c g).s.done) ((heard c g).r.next) ((heard c g).r.data) ((heard c g).r.held) (.slice v11a ((heard c g).r.held.length) v11c) ((heard c g).r.fin) ((heard c g).r.done) ((heard c g).window) ((heard c g).most) ((heard c g).o.mss) ((heard c g).o.scale) ((heard c g).o.sack) ((heard c g).o.stamp) ((heard c g).o.val) ((heard c g).o.echo) ((heard c g).timer) ((heard c g).tries) (.slice v5a ((heard c g).r.held.length) v5c) ww (Own.sl (hf _ m2)) (Own.sl (hf _ m3))) ?_
 intro _
 refine kES [2,3,6,8,53] [(2,.p 0 0),(3,.p 1 0),(6,.p 2 0),(8,.p 4 0),(53,.v (.bool false))] ?_
 refine kN ?_
 refine kK ?_
 refine kQ ?_
 refine kES [2,3,6,8,10] [(2,.p 0 0),(3,.p 1 0),(6,.p 2 0),(8,.p 4 0),(10,.v (.int .i64 1))] ?_
 refine kQ ?_
 refine kWS 2 [2,3,6,8,10,54,55] [(2,.p 0 0),(3,.p 1 0),(6,.p 2 0),(8,.p 4 0),(10,.v (.int .i64 1)),(54,.v (.agg (conL (heard c g) (.slice v11a ((heard c g).r.held.length) v11c)).toArray)),(55,.v (.int .i64 1))] 20 [.agg (conL (heard c g) (.slice v11a ((heard c g).r.held.length) v11c)).toArray,.int .i64 1] (some 56) 2 rfl rfl (fun ww b h hb => vblk_lo h hb) (xcm_own marks_ne fun ww hw hf => ymarkConn_c (heard c g) (.slice v11a ((heard c g).r.held.length) v11c) 1 ww w.heap.size hw (hf (ownF w.heap.size (.slice v11a ((heard c g).r.held.length) v11c) 2 ((heard c g).r.held.map pceCells)) (by simp)) (by omega) (by omega) (by omega)) ?_
 intro _
 refine kES [2,3,6,8,10] [(2,.p 0 0),(3,.p 1 0),(6,.p 2 0),(8,.p 4 0),(10,.v (.int .i64 (1 + 2 * (((heard c g).r.held).length : Int))))] ?_
 refine kQ ?_
 refine kES [2,3,6,8,10,11] [(2,.p 0 0),(3,.p 1 0),(6,.p 2 0),(8,.p 4 0),(10,.v (.int .i64 (1 + 2 * (((heard c g).r.held).length : Int)))),(11,.v (.int .i64 1))] ?_
 refine kQ ?_
 refine kCS 2 [2,3,6,8,10,11,57,58] [(2,.p 0 0),(3,.p 1 0),(6,.p 2 0),(8,.p 4 0),(10,.v (.int .i64 (1 + 2 * (((heard c g).r.held).length : Int)))),(11,.v (.int .i64 1)),(57,.v (.agg (conL { (heard c g) with r := { (heard c g).r with held := (marks mkP 2 1 ((heard c g).r.held).length) } } (.slice v11a ((heard c g).r.held.length) v11c)).toArray)),(58,.v (.int .i64 1))] 21 [.agg (conL { (heard c g) with r := { (heard c g).r with held := (marks mkP 2 1 ((heard c g).r.held).length) } } (.slice v11a ((heard c g).r.held.length) v11c)).toArray,.int .i64 1] (some 59) rfl (xc_b fun ww hf => yheldConn_m ((heard c g).r.held).length ((heard c g).t.ip) ((heard c g).t.port) ((heard c g).t.my) ((heard c g).state) ((heard c g).s.una) ((heard c g).s.data) ((heard c g).s.sent) ((heard c g).s.fin) ((heard c g).s.finSent) ((heard c g).s.done) ((heard c g).r.next) ((heard c g).r.data) ((heard c g).r.fin) ((heard c g).r.done) ((heard c g).window) ((heard c g).most) ((heard c g).o.mss) ((heard c g).o.scale) ((heard c g).o.sack) ((heard c g).o.stamp) ((heard c g).o.val) ((heard c g).o.echo) ((heard c g).timer) ((heard c g).tries) (.slice v11a ((heard c g).r.held.length) v11c) 1 ww (Own.sl (hf _ m0)) (by omega) (by omega) (by omega)) ?_
 intro _
 refine kES [2,3,6,8,10,11] [(2,.p 0 0),(3,.p 1 0),(6,.p 2 0),(8,.p 4 0),(10,.v (.int .i64 (1 + 2 * (((heard c g).r.held).length : Int)))),(11,.v (.int .i64 (1 + 2 * (((heard c g).r.held).length : Int))))] ?_
 refine kS ?_
 refine kQ ?_
 refine kES [2,3,6,8,10,11,61] [(2,.p 0 0),(3,.p 1 0),(6,.p 2 0),(8,.p 4 0),(10,.v (.int .i64 (1 + 2 * (((heard c g).r.held).length : Int)))),(11,.v (.int .i64 (1 + 2 * (((heard c g).r.held).length : Int)))),(61,.v (.bool (decide ((1 + 2 * (((heard c g).r.held).length : Int)) < 0))))] ?_
 refine kC (decide ((1 + 2 * (((heard c g).r.held).length : Int)) < 0)) (fun h16 => ?_) (fun h16 => ?_)
 have h16p := of_decide_eq_true h16
 exfalso; have := of_decide_eq_true h16; omega
 have h16p := of_decide_eq_false h16
 refine kK ?_
 refine kS ?_
 refine kQ ?_
 refine kES [2,3,6,8,10,64] [(2,.p 0 0),(3,.p 1 0),(6,.p 2 0),(8,.p 4 0),(10,.v (.int .i64 (1 + 2 * (((heard c g).r.held).length : Int)))),(64,.v (.bool ((1 + 2 * (((heard c g).r.held).length : Int)) != (1 + 2 * (((heard c g).r.held).length : Int)))))] ?_
 refine kC ((1 + 2 * (((heard c g).r.held).length : Int)) != (1 + 2 * (((heard c g).r.held).length : Int))) (fun h17 => ?_) (fun h17 => ?_)
 simp at h17
 have h17p := neF h17
 refine kK ?_
 refine kS ?_
 refine xw_joinE (α := Option Addr × Nat × Option Addr × Nat) (fun y => (fun (v19a : Option Addr) (v19c : Nat) (v18a : Option Addr) (v18c : Nat) => (⟨[(6,.p 2 0),(8,.p 4 0),(10,.v (.int .i64 (1 + 2 * (((heard c g).r.held).length : Int)))),(12,.p 5 0)],[⟨41,conL c (.slice Acrh c.r.held.length Ccrh)⟩,⟨43,segL g⟩,⟨50,conL (heard c g) (.slice v5a ((heard c g).r.held.length) v5c)⟩,⟨50,conL { c with r := { c.r with held := (marks mkP 2 1 c.r.held.length) } } (.slice v10a c.r.held.length v10c)⟩,⟨50,conL { (heard c g) with r := { (heard c g).r with held := (marks mkP 2 1 ((heard c g).r.held).length) } } (.slice v11a ((heard c g).r.held.length) v11c)⟩,⟨50,conL (heard c g) (.slice v19a ((heard c g).r.held.length) v19c)⟩],[],[ownF w.heap.size (.slice v19a ((heard c g).r.held.length) v19c) 2 ((heard c g).r.held.map pceCells),ownF w.heap.size (.slice v18a c.r.held.length v18c) 2 (c.r.held.map pceCells),ownF w.heap.size (.slice v11a ((heard c g).r.held.length) v11c) 2 ((marks mkP 2 1 ((heard c g).r.held).length).map pceCells),ownF w.heap.size (.slice v10a c.r.held.length v10c) 2 ((marks mkP 2 1 c.r.held.length).map pceCells),ownF w.heap.size (.slice v14a c.r.held.length v14c) 2 (c.r.held.map pceCells),ownF w.heap.size (.slice v5a ((heard c g).r.held.length) v5c) 2 ((heard c g).r.held.map pceCells),ownF w.heap.size (.slice v4a c.r.held.length v4c) 2 (c.r.held.map pceCells),slF (.slice Acrh c.r.held.length Ccrh) 2 (c.r.held.map pceCells)]⟩ : St)) y.1 y.2.1 y.2.2.1 y.2.2.2) ?_ ?_
 refine xe_region [] (by kernel_rfl) (fun ρ σ => ?_)
 refine kTS [0,2] [67,65,6,8,10] 5 [(67,.v (.agg (segL g).toArray)),(65,.v (.agg (conL c (.slice Acrh c.r.held.length Ccrh)).toArray)),(6,.p 2 0),(8,.p 4 0),(10,.v (.int .i64 (1 + 2 * (((heard c g).r.held).length : Int))))] ?_
 refine kA [1,5] ⟨?_,?_⟩
 refine kSC 1 16 [.agg (conL c (.slice Acrh c.r.held.length Ccrh)).toArray] (some 66) rfl (xc_on (m := c.r.held.length) (F := fun v' => .agg (conL c v').toArray) (List.length_map ..) fun ww hf => toConn_c c.t.ip c.t.port c.t.my c.state c.s.una c.s.data c.s.sent c.s.fin c.s.finSent c.s.done c.r.next c.r.data c.r.held (.slice Acrh c.r.held.length Ccrh) c.r.fin c.r.done c.window c.most c.o.mss c.o.scale c.o.sack c.o.stamp c.o.val c.o.echo c.timer c.tries ww (hf _ m5) (by omega)) ?_
 rintro ⟨v18a,v18c⟩
 refine kA [3,5] ⟨?_,?_⟩
 refine kSC 3 17 [.agg (segL g).toArray] (some 68) rfl (xc_b fun ww hf => toSegment_c g.src g.dst g.seq g.ack g.flags g.window g.o.mss g.o.scale g.o.sack g.o.stamp g.o.val g.o.echo g.body ww) ?_
 intro _
 refine kA [4,5] ⟨?_,?_⟩
 refine kSC 4 18 [.agg (conL c (.slice v18a c.r.held.length v18c)).toArray,.agg (segL g).toArray] (some 69) rfl (xc_r fun ww hw hf => yiHeard_c c (.slice v18a c.r.held.length v18c) g ww (Own.sl (hf _ m0)) (by assumption) (by omega) (by assumption) (by omega) w.heap.size hw) ?_
 rintro ⟨v19a,v19c⟩
 refine kA [5] ?_
 refine xs_box 5 ⟨50,conZ⟩ _ rfl (by kernel_rfl) (by kernel_rfl) (by kernel_rfl) (by kernel_rfl) rfl ?_
 refine kA [6] ?_
 refine kSS 6 5 0 (conL (heard c g) (.slice v19a ((heard c g).r.held.length) v19c)) rfl ?_
 refine kZ ?_
 exact ⟨(v19a,v19c,v18a,v18c),kF 6 0 [6,8,10,12]⟩
 refine xs_box 5 ⟨50,conZ⟩ _ rfl (by kernel_rfl) (by kernel_rfl) (by kernel_rfl) (by kernel_rfl) rfl ?_
 refine kA [4] ?_
 refine kSC 4 18 [.agg (conL c (.slice v18a c.r.held.length v18c)).toArray,.agg (segL g).toArray] (some 69) rfl (xc_r fun ww hw hf => yiHeard_c c (.slice v18a c.r.held.length v18c) g ww (Own.sl (hf _ m0)) (by assumption) (by omega) (by assumption) (by omega) w.heap.size hw) ?_
 rintro ⟨v20a,v20c⟩
 refine kA [6] ?_
 refine kSS 6 5 0 (conL (heard c g) (.slice v20a ((heard c g).r.held.length) v20c)) rfl ?_
 refine kZ ?_
 exact ⟨(v20a,v20c,v18a,v18c),kF 6 0 [6,8,10,12]⟩
 refine xs_box 5 ⟨50,conZ⟩ _ rfl (by kernel_rfl) (by kernel_rfl) (by kernel_rfl) (by kernel_rfl) rfl ?_
 refine kA [3] ?_
 refine kSC 3 17 [.agg (segL g).toArray] (some 68) rfl (xc_b fun ww hf => toSegment_c g.src g.dst g.seq g.ack g.flags g.window g.o.mss g.o.scale g.o.sack g.o.stamp g.o.val g.o.echo g.body ww) ?_
 intro _
 refine kA [4] ?_
 refine kSC 4 18 [.agg (conL c (.slice v18a c.r.held.length v18c)).toArray,.agg (segL g).toArray] (some 69) rfl (xc_r fun ww hw hf => yiHeard_c c (.slice v18a c.r.held.length v18c) g ww (Own.sl (hf _ m0)) (by assumption) (by omega) (by assumption) (by omega) w.heap.size hw) ?_
 rintro ⟨v21a,v21c⟩
 refine kA [6] ?_
 refine kSS 6 5 0 (conL (heard c g) (.slice v21a ((heard c g).r.held.length) v21c)) rfl ?_
 refine kZ ?_
 exact ⟨(v21a,v21c,v18a,v18c),kF 6 0 [6,8,10,12]⟩
 refine xs_box 5 ⟨50,conZ⟩ _ rfl (by kernel_rfl) (by kernel_rfl) (by kernel_rfl) (by kernel_rfl) rfl ?_
 refine kA [1] ?_
 refine kSC 1 16 [.agg (conL c (.slice Acrh c.r.held.length Ccrh)).toArray] (some 66) rfl (xc_on (m := c.r.held.length) (F := fun v' => .agg (conL c v').toArray) (List.length_map ..) fun ww hf => toConn_c c.t.ip c.t.port c.t.my c.state c.s.una c.s.data c.s.sent c.s.fin c.s.finSent c.s.done c.r.next c.r.data c.r.held (.slice Acrh c.r.held.length Ccrh) c.r.fin c.r.done c.window c.most c.o.mss c.o.scale c.o.sack c.o.stamp c.o.val c.o.echo c.timer c.tries ww (hf _ m5) (by omega)) ?_
 rintro ⟨v22a,v22c⟩
 refine kA [3] ?_
 refine kSC 3 17 [.agg (segL g).toArray] (some 68) rfl (xc_b fun ww hf => toSegment_c g.src g.dst g.seq g.ack g.flags g.window g.o.mss g.o.scale g.o.sack g.o.stamp g.o.val g.o.echo g.body ww) ?_
 intro _
 refine kA [4] ?_
 refine kSC 4 18 [.agg (conL c (.slice v22a c.r.held.length v22c)).toArray,.agg (segL g).toArray] (some 69) rfl (xc_r fun ww hw hf => yiHeard_c c (.slice v22a c.r.held.length v22c) g ww (Own.sl (hf _ m0)) (by assumption) (by omega) (by assumption) (by omega) w.heap.size hw) ?_
 rintro ⟨v23a,v23c⟩
 refine kA [6] ?_
 refine kSS 6 5 0 (conL (heard c g) (.slice v23a ((heard c g).r.held.length) v23c)) rfl ?_
 refine kZ ?_
 exact ⟨(v23a,v23c,v22a,v22c),kF 6 0 [6,8,10,12]⟩
 rintro ⟨v19a,v19c,v18a,v18c⟩
 refine kS ?_
 refine kQ ?_
 refine kCF 2 [8,10,70,71] ⟨[(8,.p 4 0),(10,.v (.int .i64 (1 + 2 * (((heard c g).r.held).length : Int)))),(70,.v (.agg (conL (heard c g) (.slice v19a ((heard c g).r.held.length) v19c)).toArray)),(71,.v (.agg (conL (heard c g) (.slice v5a ((heard c g).r.held.length) v5c)).toArray))],[⟨41,conL c (.slice Acrh c.r.held.length Ccrh)⟩,⟨43,segL g⟩,⟨50,conL (heard c g) (.slice v5a ((heard c g).r.held.length) v5c)⟩,⟨50,conL { c with r := { c.r with held := (marks mkP 2 1 c.r.held.length) } } (.slice v10a c.r.held.length v10c)⟩,⟨50,conL { (heard c g) with r := { (heard c g).r with held := (marks mkP 2 1 ((heard c g).r.held).length) } } (.slice v11a ((heard c g).r.held.length) v11c)⟩,⟨50,conL (heard c g) (.slice v19a ((heard c g).r.held.length) v19c)⟩],[],[ownF w.heap.size (.slice v19a ((heard c g).r.held.length) v19c) 2 ((heard c g).r.held.map pceCells),ownF w.heap.size (.slice v18a c.r.held.length v18c) 2 (c.r.held.map pceCells),ownF w.heap.size (.slice v11a ((heard c g).r.held.length) v11c) 2 ((marks mkP 2 1 ((heard c g).r.held).length).map pceCells),ownF w.heap.size (.slice v10a c.r.held.length v10c) 2 ((marks mkP 2 1 c.r.held.length).map pceCells),ownF w.heap.size (.slice v14a c.r.held.length v14c) 2 (c.r.held.map pceCells),ownF w.heap.size (.slice v5a ((heard c g).r.held.length) v5c) 2 ((heard c g).r.held.map pceCells),ownF w.heap.size (.slice v4a c.r.held.length v4c) 2 (c.r.held.map pceCells),slF (.slice Acrh c.r.held.length Ccrh) 2 (c.r.held.map pceCells)]⟩ 19 [.agg (conL (heard c g) (.slice v19a ((heard c g).r.held.length) v19c)).toArray,.agg (conL (heard c g) (.slice v5a ((heard c g).r.held.length) v5c)).toArray] (some 72) rfl (xc_b fun ww hf => eqConn_c ((heard c g).t.ip) ((heard c g).t.port) ((heard c g).t.my) ((heard c g).state) ((heard c g).s.una) ((heard c g).s.data) ((heard c g).s.sent) ((heard c g).s.fin) ((heard c g).s.finSent) ((heard c g).s.done) ((heard c g).r.next) ((heard c g).r.data) ((heard c g).r.held) (.slice v19a ((heard c g).r.held.length) v19c) ((heard c g).r.fin) ((heard c g).r.done) ((heard c g).window) ((heard c g).most) ((heard c g).o.mss) ((heard c g).o.scale) ((heard c g).o.sack) ((heard c g).o.stamp) ((heard c g).o.val) ((heard c g).o.echo) ((heard c g).timer) ((heard c g).tries) (.slice v5a ((heard c g).r.held.length) v5c) ww (Own.sl (hf _ m0)) (Own.sl (hf _ m5))) ?_
 intro _
 refine kES [8,10,73] [(8,.p 4 0),(10,.v (.int .i64 (1 + 2 * (((heard c g).r.held).length : Int)))),(73,.v (.bool false))] ?_
 refine kN ?_
 refine kK ?_
 refine kQ ?_
 refine kES [8,10,11] [(8,.p 4 0),(10,.v (.int .i64 (1 + 2 * (((heard c g).r.held).length : Int)))),(11,.v (.int .i64 1))] ?_
 refine kQ ?_
 refine kCS 2 [10,11,74,75] [(10,.v (.int .i64 (1 + 2 * (((heard c g).r.held).length : Int)))),(11,.v (.int .i64 1)),(74,.v (.agg (conL { (heard c g) with r := { (heard c g).r with held := (marks mkP 2 1 ((heard c g).r.held).length) } } (.slice v11a ((heard c g).r.held.length) v11c)).toArray)),(75,.v (.int .i64 1))] 21 [.agg (conL { (heard c g) with r := { (heard c g).r with held := (marks mkP 2 1 ((heard c g).r.held).length) } } (.slice v11a ((heard c g).r.held.length) v11c)).toArray,.int .i64 1] (some 76) rfl (xc_b fun ww hf => yheldConn_m ((heard c g).r.held).length ((heard c g).t.ip) ((heard c g).t.port) ((heard c g).t.my) ((heard c g).state) ((heard c g).s.una) ((heard c g).s.data) ((heard c g).s.sent) ((heard c g).s.fin) ((heard c g).s.finSent) ((heard c g).s.done) ((heard c g).r.next) ((heard c g).r.data) ((heard c g).r.fin) ((heard c g).r.done) ((heard c g).window) ((heard c g).most) ((heard c g).o.mss) ((heard c g).o.scale) ((heard c g).o.sack) ((heard c g).o.stamp) ((heard c g).o.val) ((heard c g).o.echo) ((heard c g).timer) ((heard c g).tries) (.slice v11a ((heard c g).r.held.length) v11c) 1 ww (Own.sl (hf _ m2)) (by omega) (by omega) (by omega)) ?_
 intro _
 refine kES [10,11] [(10,.v (.int .i64 (1 + 2 * (((heard c g).r.held).length : Int)))),(11,.v (.int .i64 (1 + 2 * (((heard c g).r.held).length : Int))))] ?_
 refine kS ?_
 refine kQ ?_
 refine kES [10,11,78] [(10,.v (.int .i64 (1 + 2 * (((heard c g).r.held).length : Int)))),(11,.v (.int .i64 (1 + 2 * (((heard c g).r.held).length : Int)))),(78,.v (.bool (decide ((1 + 2 * (((heard c g).r.held).length : Int)) < 0))))] ?_
 refine kC (decide ((1 + 2 * (((heard c g).r.held).length : Int)) < 0)) (fun h24 => ?_) (fun h24 => ?_)
 have h24p := of_decide_eq_true h24
 exfalso; have := of_decide_eq_true h24; omega
 have h24p := of_decide_eq_false h24
 refine kK ?_
 refine kS ?_
 refine kQ ?_
 refine kES [81] [(81,.v (.bool ((1 + 2 * (((heard c g).r.held).length : Int)) != (1 + 2 * (((heard c g).r.held).length : Int)))))] ?_
 refine kC ((1 + 2 * (((heard c g).r.held).length : Int)) != (1 + 2 * (((heard c g).r.held).length : Int))) (fun h25 => ?_) (fun h25 => ?_)
 simp at h25
 have h25p := neF h25
 refine kK ?_
 refine kQ ?_
 refine kES [4] [(4,.v (.bool true))] ?_
 refine kR ?_
 exact ⟨[.bool true],by kernel_rfl,fun w' hb hf => ⟨rfl,hb⟩⟩

set_option maxRecDepth 100000 in
theorem fnExactHeard_lifted (os : Os) (started : os.Started) (H : Type) (enc : TypeId × Value → H) :
    ReturnsInHanded {} Try.checked os 4 .any (Rows.fnExactHeardSpec.pre6 enc Try.prog Try.f4 Rows.fnExactHeardRow.domain false) (Rows.fnExactHeardSpec.post enc Try.prog Try.f4 false true false false) := by
  refine returnsInHanded_of_change (C := Try.checked) Try.ownK started (by kernel_rfl) Try.func4
    (ChangeSpec.witness6 (enc := enc) (C := Try.checked) false ⟨#[], #[.agg #[.int .i64 0, .int .i64 0, .int .i64 0, .int .i64 0, .int .i64 0, .string ⟨#[]⟩, .int .i64 0, .bool false, .bool false, .bool false, .int .i64 0, .string ⟨#[]⟩, .slice none 0 0, .int .i64 0, .bool false, .int .i64 0, .int .i64 0, .int .i64 0, .int .i64 0, .bool false, .bool false, .int .i64 0, .int .i64 0, .int .i64 0, .int .i64 0], .agg #[.int .i64 0, .int .i64 0, .int .i64 0, .int .i64 0, .int .i64 0, .int .i64 0, .int .i64 0, .int .i64 0, .bool false, .bool false, .int .i64 0, .int .i64 0, .string ⟨#[]⟩]], []⟩ 8 (by kernel_rfl) (by kernel_rfl) (by kernel_rfl) (by kernel_rfl)) ?_
  intro W base args ds gs before hval0 hW hcnd _
  have hval : ∀ (j : Nat) t v, Try.f4.params[j]? = some t → args[j]? = some v → Value.okWide Try.prog W .any base t v := hval0
  have hW' := hW
  obtain ⟨p, q, hA0, hV, rfl, hfz, hnd⟩ := hW
  have hA : DataW.TrodAll enc Try.prog W 0 (fun _ => true) true Try.f4.params.toList args.toList ds p := hA0
  rw [Try.params4] at hA hval
  obtain ⟨v0, vs0, d0, ds0, p0, q0, hargs, rfl, rfl, h0, r0⟩ := trodAll_cons hA
  obtain ⟨v1, vs1, d1, ds1, p1, q1, rfl, rfl, rfl, h1, r1⟩ := trodAll_cons r0
  obtain ⟨rfl, rfl, rfl⟩ := trodAll_nil r1
  obtain rfl : args = #[v0, v1] := by cases args; simp_all
  obtain ⟨rfl, rfl⟩ := trodVars_none hV
  clear hA0 hval0
  have g0 := h0
  have g1 := h1
  obtain ⟨cs0, rfl, -⟩ := okWide_struct Try.underlying41 (hval 0 _ v0 rfl rfl)
  obtain ⟨fuel0, f0⟩ := g0
  obtain ⟨c_t_ip, c_t_port, c_t_my, c_state, c_s_una, c_s_data, c_s_sent, c_s_fin, c_s_finSent, c_s_done, c_r_next, c_r_data, c_r_held_v, c_r_fin, c_r_done, c_window, c_most, c_o_mss, c_o_scale, c_o_sack, c_o_stamp, c_o_val, c_o_echo, c_timer, c_tries, e0, F_c_t_ip, F_c_t_port, F_c_t_my, F_c_state, F_c_s_una, F_c_s_data, F_c_s_sent, F_c_r_next, F_c_r_data, F_c_r_held, F_c_r_fin, F_c_window, F_c_most, F_c_o_mss, F_c_o_scale, F_c_o_val, F_c_o_echo, F_c_timer, F_c_tries⟩ := open_CON f0
  obtain rfl : cs0 = #[.int .i64 c_t_ip, .int .i64 c_t_port, .int .i64 c_t_my, .int .i64 c_state, .int .i64 c_s_una, .string c_s_data, .int .i64 c_s_sent, .bool c_s_fin, .bool c_s_finSent, .bool c_s_done, .int .i64 c_r_next, .string c_r_data, c_r_held_v, .int .i64 c_r_fin, .bool c_r_done, .int .i64 c_window, .int .i64 c_most, .int .i64 c_o_mss, .int .i64 c_o_scale, .bool c_o_sack, .bool c_o_stamp, .int .i64 c_o_val, .int .i64 c_o_echo, .int .i64 c_timer, .int .i64 c_tries] := by cases cs0; simpa [Value.cells] using e0
  clear e0
  obtain ⟨_, _, T_c_r_held⟩ := F_c_r_held
  obtain ⟨c_r_held, L_c_r_held, M_c_r_held⟩ := openSc_PCE T_c_r_held
  obtain ⟨cs1, rfl, -⟩ := okWide_struct Try.underlying43 (hval 1 _ v1 rfl rfl)
  obtain ⟨fuel1, f1⟩ := g1
  obtain ⟨g_src, g_dst, g_seq, g_ack, g_flags, g_window, g_o_mss, g_o_scale, g_o_sack, g_o_stamp, g_o_val, g_o_echo, g_body, e1, F_g_src, F_g_dst, F_g_seq, F_g_ack, F_g_flags, F_g_window, F_g_o_mss, F_g_o_scale, F_g_o_val, F_g_o_echo, F_g_body⟩ := open_SEG f1
  obtain rfl : cs1 = #[.int .i64 g_src, .int .i64 g_dst, .int .i64 g_seq, .int .i64 g_ack, .int .i64 g_flags, .int .i64 g_window, .int .i64 g_o_mss, .int .i64 g_o_scale, .bool g_o_sack, .bool g_o_stamp, .int .i64 g_o_val, .int .i64 g_o_echo, .string g_body] := by cases cs1; simpa [Value.cells] using e1
  clear e1
  refine (fnExactHeard_walk (⟨⟨c_t_ip, c_t_port, c_t_my⟩, c_state, ⟨c_s_una, c_s_data, c_s_sent, c_s_fin, c_s_finSent, c_s_done⟩, ⟨c_r_next, c_r_data, c_r_held, c_r_fin, c_r_done⟩, c_window, c_most, ⟨c_o_mss, c_o_scale, c_o_sack, c_o_stamp, c_o_val, c_o_echo⟩, c_timer, c_tries⟩ : Con) c_r_held_v (⟨g_src, g_dst, g_seq, g_ack, g_flags, g_window, ⟨g_o_mss, g_o_scale, g_o_sack, g_o_stamp, g_o_val, g_o_echo⟩, g_body⟩ : Seg) W F_c_s_data F_c_r_data L_c_r_held M_c_r_held F_g_body).mono fun e W' ⟨he, hb⟩ => ?_
  subst he
  have hlt : ∀ x ∈ (p0 ++ (p1 ++ ([]))) ++ [], x.block < W.heap.size := fun x hx => hW'.lt x hx
  refine ⟨_, rfl, post_of_below (pa := (p0 ++ (p1 ++ ([])))) (pv := []) hW' (fun _ _ _ => trodAll_cons_mk (shut_bool Try.underlying4 _) trodAll_mk0) (fun sp hsp => trodAll_cons_mk (WideElems.Trod_stays Try.laidOut (by kernel_rfl) (of_decide_eq_true (by kernel_rfl)) h0 (fun x hx => hb.same (hlt x (List.mem_append_left _ (List.mem_append_left _ hx)))) (fun x hx => hsp x (List.mem_append_left _ (List.mem_append_left _ hx)))) (trodAll_cons_mk (WideElems.Trod_stays Try.laidOut (by kernel_rfl) (of_decide_eq_true (by kernel_rfl)) h1 (fun x hx => hb.same (hlt x (List.mem_append_left _ (List.mem_append_right _ (List.mem_append_left _ hx))))) (fun x hx => hsp x (List.mem_append_left _ (List.mem_append_right _ (List.mem_append_left _ hx))))) (trodAll_mk0))) (fun _ _ => rfl) rfl hb (ok_one (by kernel_rfl) rfl (okWide_bool_mk Try.underlying4 _))⟩

theorem fnExactHeard_over : Rows.fnExactHeardRow.holds Try.pinned (OpenSpec.ofChange Rows.fnExactHeardSpec) :=
  OpenClaim.holds_of_wide 4 Try.f4 rfl rfl rfl rfl rfl rfl rfl ⟨rfl, rfl, rfl, rfl, rfl⟩ rfl rfl rfl rfl rfl (by kernel_rfl) Try.func4 (by kernel_rfl)
    (of_decide_eq_true (by kernel_rfl)) (by unfold Func.isWrapper; first | (rw [if_pos (by decide +kernel)]; kernel_rfl) | (rw [if_neg (by decide +kernel)]; exact ⟨rfl, rfl⟩))
    (fun os started H enc _ => fnExactHeard_lifted os started H enc)

theorem fnExactHeard_holds : Rows.FnExactHeardSaid := fnExactHeard_over
#print axioms fnExactHeard_holds
end Go.Proofs.Ytebgmdiejgcoiaa
