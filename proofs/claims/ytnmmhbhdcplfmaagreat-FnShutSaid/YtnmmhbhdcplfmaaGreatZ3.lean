/- Contracts that this law needs, part 3. -/
import Derived.Test.YtnmmhbhdcplfmaaGreatZ2
namespace Go.Proofs.YtnmmhbhdcplfmaaGreat
open Go.RowKit
set_option linter.unusedVariables false
set_option linter.unusedSimpArgs false
set_option maxRecDepth 100000
set_option maxHeartbeats 2000000

theorem ysTickConn_c (c : Con) (c_r_heldV : Value) (w : World) (hl_c_r_heldV : Sl w c_r_heldV 2 (c.r.held.map pceCells)) (hkn : c.r.held.length ≤ 1048576)(hm : ∀ p ∈ c.r.held, p.text.size ≤ 1048576) (hsz : c.r.data.size ≤ 4611686018427387904) (B : Nat) (hB : B ≤ w.heap.size) : Calls Tryz.prog 43 #[.agg (conL c c_r_heldV).toArray] w fun e w' => XRs w w' e (α := (Option Addr × Nat) × (Option Addr × Nat)) (fun y => .tuple #[.agg (conL (tickConn c).1 (.slice y.1.1 ((tickConn c).1.r.held.length) y.1.2)).toArray, .slice y.2.1 ((tickConn c).2.length) y.2.2]) (fun y => [ownF B (.slice y.1.1 ((tickConn c).1.r.held.length) y.1.2) 2 ((tickConn c).1.r.held.map pceCells), ownF B (.slice y.2.1 ((tickConn c).2.length) y.2.2) 13 ((tickConn c).2.map segCells)]) := by
 obtain ⟨Acrh,Ccrh,hvcrh⟩ := hl_c_r_heldV.form
 rw [List.length_map] at hvcrh; subst hvcrh
 have hncrh := hl_c_r_heldV.len; rw [List.length_map] at hncrh
 have hqcrh := Sl.capLe hl_c_r_heldV
 refine x_callsA (args := [.agg (conL c (.slice Acrh c.r.held.length Ccrh)).toArray]) (fn := Tryz.f43) [slF (.slice Acrh c.r.held.length Ccrh) 2 (c.r.held.map pceCells)] Tryz.func43 rfl Tryz.ntmps43 rfl (by simp only [List.mem_cons,List.not_mem_nil,or_false,forall_eq_or_imp,forall_eq]; exact ⟨rfl,hl_c_r_heldV⟩) ?_
 refine kQ ?_
 refine kEF [1,2] ⟨[(1,.p 0 0),(2,.p 1 0)],[⟨34,conL c (.slice Acrh c.r.held.length Ccrh)⟩,⟨34,conZ⟩],[],[slF (.slice Acrh c.r.held.length Ccrh) 2 (c.r.held.map pceCells)]⟩ ?_
 refine kQ ?_
 refine kCD 1 [1,2,9] [(9,.v (.agg (conL c (.slice Acrh c.r.held.length Ccrh)).toArray))] 70 [.agg (conL c (.slice Acrh c.r.held.length Ccrh)).toArray] (some 10) rfl (xc_r fun ww hw hf => yl19Copy_c c (.slice Acrh c.r.held.length Ccrh) ww (hf _ m0) (by assumption) w.heap.size hw) ?_
 rintro ⟨v1a,v1c⟩
 refine kEA [1,2,4] [(4,.p 2 0)] [⟨34,conL c (.slice v1a c.r.held.length v1c)⟩] ?_
 refine kQ ?_
 refine kHD 0 [1,2,4] [] rfl (hv_build (e := 36) (K := 13) (bytes := 104) [] rfl (by kernel_rfl) (by kernel_rfl) (by kernel_rfl) (by kernel_rfl) (by kernel_rfl) (rs := ([] : List Seg).map segCells) rfl) ?_
 intro g2
 refine kED [1,2,4,5] [(5,.v (.slice (some ⟨g2,0,none⟩) 0 0))] ?_
 refine kS ?_
 refine kQ ?_
 refine kCD 1 [1,2,4,5,12] [(12,.v (.agg (conL c (.slice Acrh c.r.held.length Ccrh)).toArray))] 45 [.agg (conL c (.slice Acrh c.r.held.length Ccrh)).toArray] (some 13) rfl (xc_b fun ww hf => ysWaits_c c (.slice Acrh c.r.held.length Ccrh) ww (hf _ m2) (by assumption) (by omega)) ?_
 intro _
 refine kED [1,2,4,5,14] [(14,.v (.bool (!(waits c))))] ?_
 refine kC (!(waits c)) (fun h3 => ?_) (fun h3 => ?_)
 have h3n := not_t h3
 refine kS ?_
 refine kQ ?_
 refine kCD 1 [2,4,5,15] [(15,.v (.agg (conL c (.slice Acrh c.r.held.length Ccrh)).toArray))] 23 [.agg (conL c (.slice Acrh c.r.held.length Ccrh)).toArray] (some 16) rfl (xc_b fun ww hf => ysConnOk_c c (.slice Acrh c.r.held.length Ccrh) ww (hf _ m2) (by assumption) (by omega)) ?_
 intro _
 refine kED [2,4,5,16] [] ?_
 refine kC (conOk c) (fun h4 => ?_) (fun h4 => ?_)
 have h4c : conOk c = true := (by simpa using h4)
 have h4q := conOk_bd h4c; obtain ⟨h4q0,h4q1,h4q2,h4q3,h4q4,h4q5,h4q6,h4q7,h4q8,h4q9⟩ := h4q
 refine kQ ?_
 refine kEU [2,4,5] [] 2 ⟨34,conL { c with timer := 0 } (.slice v1a c.r.held.length v1c)⟩ ?_
 refine kG ?_
 refine kEU [2,4,5] [] 2 ⟨34,conL { c with timer := 0,tries := 0 } (.slice v1a c.r.held.length v1c)⟩ ?_
 refine kQ ?_
 refine kEF [2,3] ⟨[(2,.p 1 0),(3,.v (.slice (some ⟨g2,0,none⟩) 0 0))],[⟨34,conL c (.slice Acrh c.r.held.length Ccrh)⟩,⟨34,conL { c with timer := 0,tries := 0 } (.slice v1a c.r.held.length v1c)⟩,⟨34,conL { c with timer := 0,tries := 0 } (.slice v1a c.r.held.length v1c)⟩],[],[rowF w.heap.size 36 13 (.slice (some ⟨g2,0,none⟩) 0 0) (([] : List Seg).map segCells),ownF w.heap.size (.slice v1a c.r.held.length v1c) 2 (c.r.held.map pceCells),slF (.slice Acrh c.r.held.length Ccrh) 2 (c.r.held.map pceCells)]⟩ ?_
 refine kR ?_
 have hmod : tickConn c = (({ c with timer := 0,tries := 0 }),([] : List Seg)) := by first | rfl | (simp [tickConn,ackOf, *]; done) | (simp [tickConn,ackOf, *]; omega) | grind [tickConn,ackOf]
 exact ⟨[.agg (conL { c with timer := 0,tries := 0 } (.slice v1a c.r.held.length v1c)).toArray,.slice (some ⟨g2,0,none⟩) 0 0],by kernel_rfl,fun w' hb hf ha => by rw [hmod]; exact xo2 ((v1a,v1c),(((some ⟨g2,0,none⟩) : Option Addr),0)) rfl rfl (pO (hf _ m1) hB) (pR (hf _ m0) hB) (Apart.sub2 ha (i := 1) (j := 0) rfl rfl (by decide) rfl (fun b h => h) (fun b h => rowF_blk h)) hb⟩
 refine kK ?_
 refine kQ ?_
 refine kEU [2,3] [(3,.v (.slice (some ⟨g2,0,none⟩) 0 0))] 1 ⟨34,conL c (.slice v1a c.r.held.length v1c)⟩ ?_
 refine kR ?_
 have hmod : tickConn c = (c,([] : List Seg)) := by first | rfl | (simp [tickConn,ackOf, *]; done) | (simp [tickConn,ackOf, *]; omega) | grind [tickConn,ackOf]
 exact ⟨[.agg (conL c (.slice v1a c.r.held.length v1c)).toArray,.slice (some ⟨g2,0,none⟩) 0 0],by kernel_rfl,fun w' hb hf ha => by rw [hmod]; exact xo2 ((v1a,v1c),(((some ⟨g2,0,none⟩) : Option Addr),0)) rfl rfl (pO (hf _ m1) hB) (pR (hf _ m0) hB) (Apart.sub2 ha (i := 1) (j := 0) rfl rfl (by decide) rfl (fun b h => h) (fun b h => rowF_blk h)) hb⟩
 have h3n := not_f h3
 have h3nc : conOk c = true := waits_ok (by simpa using h3n)
 have h3nq := conOk_bd h3nc; obtain ⟨h3nq0,h3nq1,h3nq2,h3nq3,h3nq4,h3nq5,h3nq6,h3nq7,h3nq8,h3nq9⟩ := h3nq
 refine kK ?_
 refine kS ?_
 refine kQ ?_
 refine kED [1,2,4,5,23] [(23,.v (.bool (c.timer == 0)))] ?_
 refine kC (c.timer == 0) (fun h5 => ?_) (fun h5 => ?_)
 have h5p := eqT h5
 refine kQ ?_
 refine kEU [1,2,4,5] [] 2 ⟨34,conL { c with timer := 3 } (.slice v1a c.r.held.length v1c)⟩ ?_
 refine kQ ?_
 refine kED [1,2,4,5,27] [(27,.v (.bool (c.state == 7)))] ?_
 refine kC (c.state == 7) (fun h6 => ?_) (fun h6 => ?_)
 have h6p := eqT h6
 refine kG ?_
 refine kEU [1,2,4,5] [] 2 ⟨34,conL { c with timer := 4 } (.slice v1a c.r.held.length v1c)⟩ ?_
 refine kQ ?_
 refine kEF [1,2,4,5] ⟨[(1,.p 0 0),(2,.p 1 0),(4,.p 2 0),(5,.v (.slice (some ⟨g2,0,none⟩) 0 0))],[⟨34,conL c (.slice Acrh c.r.held.length Ccrh)⟩,⟨34,conZ⟩,⟨34,conL { c with timer := 3 } (.slice v1a c.r.held.length v1c)⟩],[],[rowF w.heap.size 36 13 (.slice (some ⟨g2,0,none⟩) 0 0) (([] : List Seg).map segCells),ownF w.heap.size (.slice v1a c.r.held.length v1c) 2 (c.r.held.map pceCells),slF (.slice Acrh c.r.held.length Ccrh) 2 (c.r.held.map pceCells)]⟩ ?_
 refine kS ?_
 refine kQ ?_
 refine kED [1,2,4,5,35] [(35,.v (.bool true))] ?_
 refine kT ?_
 refine kQ ?_
 refine kEU [2,3] [(3,.v (.slice (some ⟨g2,0,none⟩) 0 0))] 1 ⟨34,conL { c with timer := 3 } (.slice v1a c.r.held.length v1c)⟩ ?_
 refine kR ?_
 have hmod : tickConn c = (({ c with timer := 3 }),([] : List Seg)) := by first | rfl | (simp [tickConn,ackOf, *]; done) | (simp [tickConn,ackOf, *]; omega) | grind [tickConn,ackOf]
 exact ⟨[.agg (conL { c with timer := 3 } (.slice v1a c.r.held.length v1c)).toArray,.slice (some ⟨g2,0,none⟩) 0 0],by kernel_rfl,fun w' hb hf ha => by rw [hmod]; exact xo2 ((v1a,v1c),(((some ⟨g2,0,none⟩) : Option Addr),0)) rfl rfl (pO (hf _ m1) hB) (pR (hf _ m0) hB) (Apart.sub2 ha (i := 1) (j := 0) rfl rfl (by decide) rfl (fun b h => h) (fun b h => rowF_blk h)) hb⟩
 have h6p := eqF h6
 refine kK ?_
 refine kQ ?_
 refine kEU [1,2,4,5] [] 2 ⟨34,conL { c with timer := 2 } (.slice v1a c.r.held.length v1c)⟩ ?_
 refine kS ?_
 refine kQ ?_
 refine kES [1,2,4,5,35] [(1,.p 0 0),(2,.p 1 0),(4,.p 2 0),(5,.v (.slice (some ⟨g2,0,none⟩) 0 0)),(35,.v (.bool true))] ?_
 refine kT ?_
 refine kQ ?_
 refine kEU [2,3] [(3,.v (.slice (some ⟨g2,0,none⟩) 0 0))] 1 ⟨34,conL { c with timer := 2 } (.slice v1a c.r.held.length v1c)⟩ ?_
 refine kR ?_
 have hmod : tickConn c = (({ c with timer := 2 }),([] : List Seg)) := by first | rfl | (simp [tickConn,ackOf, *]; done) | (simp [tickConn,ackOf, *]; omega) | grind [tickConn,ackOf]
 exact ⟨[.agg (conL { c with timer := 2 } (.slice v1a c.r.held.length v1c)).toArray,.slice (some ⟨g2,0,none⟩) 0 0],by kernel_rfl,fun w' hb hf ha => by rw [hmod]; exact xo2 ((v1a,v1c),(((some ⟨g2,0,none⟩) : Option Addr),0)) rfl rfl (pO (hf _ m1) hB) (pR (hf _ m0) hB) (Apart.sub2 ha (i := 1) (j := 0) rfl rfl (by decide) rfl (fun b h => h) (fun b h => rowF_blk h)) hb⟩
 have h5p := eqF h5
 refine kK ?_
 refine kQ ?_
 refine kRF 5 [1,2,4,5] ⟨[(1,.p 0 0),(2,.p 1 0),(4,.p 2 0),(5,.v (.slice (some ⟨g2,0,none⟩) 0 0))],[⟨34,conL c (.slice Acrh c.r.held.length Ccrh)⟩,⟨34,conZ⟩,⟨34,conL { c with timer := IntKind.i64.wrap (c.timer - 1) } (.slice v1a c.r.held.length v1c)⟩],[],[rowF w.heap.size 36 13 (.slice (some ⟨g2,0,none⟩) 0 0) (([] : List Seg).map segCells),ownF w.heap.size (.slice v1a c.r.held.length v1c) 2 (c.r.held.map pceCells),slF (.slice Acrh c.r.held.length Ccrh) 2 (c.r.held.map pceCells)]⟩ ?_
 refine xl_eq (st' := ⟨[(1,.p 0 0),(2,.p 1 0),(4,.p 2 0),(5,.v (.slice (some ⟨g2,0,none⟩) 0 0))],[⟨34,conL c (.slice Acrh c.r.held.length Ccrh)⟩,⟨34,conZ⟩,⟨34,conL { c with timer := c.timer - 1 } (.slice v1a c.r.held.length v1c)⟩],[],[rowF w.heap.size 36 13 (.slice (some ⟨g2,0,none⟩) 0 0) (([] : List Seg).map segCells),ownF w.heap.size (.slice v1a c.r.held.length v1c) 2 (c.r.held.map pceCells),slF (.slice Acrh c.r.held.length Ccrh) 2 (c.r.held.map pceCells)]⟩) (by rw [show (IntKind.i64.wrap (c.timer - 1)) = (c.timer - 1) from wrap_id (by omega) (by omega)] <;> rfl) ?_
 refine kED [1,2,4,5] [] ?_
 refine kS ?_
 refine kQ ?_
 refine kED [1,2,4,5,35] [(35,.v (.bool (decide ((c.timer - 1) > 0))))] ?_
 refine kC (decide ((c.timer - 1) > 0)) (fun h7 => ?_) (fun h7 => ?_)
 have h7p := of_decide_eq_true h7
 refine kQ ?_
 refine kEU [2,3] [(3,.v (.slice (some ⟨g2,0,none⟩) 0 0))] 1 ⟨34,conL { c with timer := c.timer - 1 } (.slice v1a c.r.held.length v1c)⟩ ?_
 refine kR ?_
 have hmod : tickConn c = (({ c with timer := c.timer - 1 }),([] : List Seg)) := by first | rfl | (simp [tickConn,ackOf, *]; done) | (simp [tickConn,ackOf, *]; omega) | grind [tickConn,ackOf]
 exact ⟨[.agg (conL { c with timer := c.timer - 1 } (.slice v1a c.r.held.length v1c)).toArray,.slice (some ⟨g2,0,none⟩) 0 0],by kernel_rfl,fun w' hb hf ha => by rw [hmod]; exact xo2 ((v1a,v1c),(((some ⟨g2,0,none⟩) : Option Addr),0)) rfl rfl (pO (hf _ m1) hB) (pR (hf _ m0) hB) (Apart.sub2 ha (i := 1) (j := 0) rfl rfl (by decide) rfl (fun b h => h) (fun b h => rowF_blk h)) hb⟩
 have h7p := of_decide_eq_false h7
 refine kK ?_
 refine kS ?_
 refine kQ ?_
 refine kED [1,2,4,5,40] [(40,.v (.bool (c.state == 7)))] ?_
 refine kC (c.state == 7) (fun h8 => ?_) (fun h8 => ?_)
 have h8p := eqT h8
 refine kQ ?_
 refine kEU [2,4,5] [] 2 ⟨34,conL { c with state := 8,timer := c.timer - 1 } (.slice v1a c.r.held.length v1c)⟩ ?_
 refine kQ ?_
 refine kEU [2,4,5] [] 2 ⟨34,conL { c with state := 8,timer := c.timer - 1,tries := 0 } (.slice v1a c.r.held.length v1c)⟩ ?_
 refine kQ ?_
 refine kEU [2,3] [(3,.v (.slice (some ⟨g2,0,none⟩) 0 0))] 1 ⟨34,conL { c with state := 8,timer := c.timer - 1,tries := 0 } (.slice v1a c.r.held.length v1c)⟩ ?_
 refine kR ?_
 have hmod : tickConn c = (({ c with state := 8,timer := c.timer - 1,tries := 0 }),([] : List Seg)) := by first | rfl | (simp [tickConn,ackOf, *]; done) | (simp [tickConn,ackOf, *]; omega) | grind [tickConn,ackOf]
 exact ⟨[.agg (conL { c with state := 8,timer := c.timer - 1,tries := 0 } (.slice v1a c.r.held.length v1c)).toArray,.slice (some ⟨g2,0,none⟩) 0 0],by kernel_rfl,fun w' hb hf ha => by rw [hmod]; exact xo2 ((v1a,v1c),(((some ⟨g2,0,none⟩) : Option Addr),0)) rfl rfl (pO (hf _ m1) hB) (pR (hf _ m0) hB) (Apart.sub2 ha (i := 1) (j := 0) rfl rfl (by decide) rfl (fun b h => h) (fun b h => rowF_blk h)) hb⟩
 have h8p := eqF h8
 refine kK ?_
 refine kS ?_
 refine kQ ?_
 refine kED [1,2,4,47] [(47,.v (.bool (c.tries == 3)))] ?_
 refine kC (c.tries == 3) (fun h9 => ?_) (fun h9 => ?_)
 have h9p := eqT h9
 refine kQ ?_
 refine kCD 1 [2,4,48] [(48,.v (.agg (conL c (.slice Acrh c.r.held.length Ccrh)).toArray))] 72 [.agg (conL c (.slice Acrh c.r.held.length Ccrh)).toArray] (some 49) rfl (xc_b fun ww hf => sAckOf_c c.t.ip c.t.port c.t.my c.state c.s.una c.s.data c.s.sent c.s.fin c.s.finSent c.s.done c.r.next c.r.data c.r.held (.slice Acrh c.r.held.length Ccrh) c.r.fin c.r.done c.window c.most c.o.mss c.o.scale c.o.sack c.o.stamp c.o.val c.o.echo c.timer c.tries ww (by omega)) ?_
 intro _
 refine kEA [2,4,6] [(6,.p 3 0)] [⟨36,[.int .i64 c.t.my,.int .i64 c.t.port,.int .i64 (nextOf c.s),.int .i64 c.r.next,.int .i64 16,.int .i64 (windowOf c.r),.int .i64 0,.int .i64 (-1),.bool false,.bool false,.int .i64 0,.int .i64 0,.string (⟨#[]⟩ : ByteArray)]⟩] ?_
 refine kQ ?_
 refine kEU [2,4,6] [] 3 ⟨36,[.int .i64 c.t.my,.int .i64 c.t.port,.int .i64 (nextOf c.s),.int .i64 c.r.next,.int .i64 20,.int .i64 (windowOf c.r),.int .i64 0,.int .i64 (-1),.bool false,.bool false,.int .i64 0,.int .i64 0,.string (⟨#[]⟩ : ByteArray)]⟩ ?_
 refine kQ ?_
 refine kEU [2,4,6] [] 2 ⟨34,conL { c with state := 8,timer := c.timer - 1 } (.slice v1a c.r.held.length v1c)⟩ ?_
 refine kQ ?_
 refine kEU [2,4,6] [] 2 ⟨34,conL { c with state := 8,timer := c.timer - 1,tries := 0 } (.slice v1a c.r.held.length v1c)⟩ ?_
 refine kS ?_
 refine xw_joinE (α := Nat) (fun y => (fun (g11 : Nat) => (⟨[(2,.p 1 0),(3,.v (.slice (some ⟨g11,0,none⟩) 1 1))],[⟨34,conL c (.slice Acrh c.r.held.length Ccrh)⟩,⟨34,conL { c with state := 8,timer := c.timer - 1,tries := 0 } (.slice v1a c.r.held.length v1c)⟩,⟨34,conL { c with state := 8,timer := c.timer - 1,tries := 0 } (.slice v1a c.r.held.length v1c)⟩,⟨36,[.int .i64 c.t.my,.int .i64 c.t.port,.int .i64 (nextOf c.s),.int .i64 c.r.next,.int .i64 20,.int .i64 (windowOf c.r),.int .i64 0,.int .i64 (-1),.bool false,.bool false,.int .i64 0,.int .i64 0,.string (⟨#[]⟩ : ByteArray)]⟩],[],[rowF w.heap.size 36 13 (.slice (some ⟨g11,0,none⟩) 1 1) (([⟨c.t.my,c.t.port,nextOf c.s,c.r.next,20,windowOf c.r,⟨0,(-1),false,false,0,0⟩,(⟨#[]⟩ : ByteArray)⟩] : List Seg).map segCells),rowF w.heap.size 36 13 (.slice (some ⟨g2,0,none⟩) 0 0) (([] : List Seg).map segCells),ownF w.heap.size (.slice v1a c.r.held.length v1c) 2 (c.r.held.map pceCells),slF (.slice Acrh c.r.held.length Ccrh) 2 (c.r.held.map pceCells)]⟩ : St)) y) ?_ ?_
 refine xe_region0 [true,false,true,true] (by kernel_rfl) (fun ρ σ => ?_)
 refine kTS [0,1] [57,56,2] 3 [(57,.v (.agg #[.int .i64 c.t.my,.int .i64 c.t.port,.int .i64 (nextOf c.s),.int .i64 c.r.next,.int .i64 20,.int .i64 (windowOf c.r),.int .i64 0,.int .i64 (-1),.bool false,.bool false,.int .i64 0,.int .i64 0,.string (⟨#[]⟩ : ByteArray)])),(56,.v (.agg (conL { c with state := 8,timer := c.timer - 1,tries := 0 } (.slice v1a c.r.held.length v1c)).toArray)),(2,.p 1 0)] ?_
 refine kA [2,3] ⟨?_,?_⟩
 refine kSH 2 rfl (under_t (under_f rfl (under_t (under_t under_nil)))) (hv_build (e := 36) (K := 13) (bytes := 104) [.agg #[.int .i64 c.t.my,.int .i64 c.t.port,.int .i64 (nextOf c.s),.int .i64 c.r.next,.int .i64 20,.int .i64 (windowOf c.r),.int .i64 0,.int .i64 (-1),.bool false,.bool false,.int .i64 0,.int .i64 0,.string (⟨#[]⟩ : ByteArray)]] rfl (by kernel_rfl) (by kernel_rfl) (by kernel_rfl) (by kernel_rfl) (by kernel_rfl) (rs := ([⟨c.t.my,c.t.port,nextOf c.s,c.r.next,20,windowOf c.r,⟨0,(-1),false,false,0,0⟩,(⟨#[]⟩ : ByteArray)⟩] : List Seg).map segCells) rfl) ?_
 intro g11
 refine kA [3] ?_
 refine kSS 3 1 0 (conL { c with state := 8,timer := c.timer - 1,tries := 0 } (.slice v1a c.r.held.length v1c)) rfl ?_
 refine kTS [4] [3,2] 0 [(3,.v (.slice (some ⟨g11,0,none⟩) 1 1)),(2,.p 1 0)] ?_
 refine kZ ?_
 exact ⟨(g11),kF 4 0 [2,3]⟩
 refine kSS 3 1 0 (conL { c with state := 8,timer := c.timer - 1,tries := 0 } (.slice v1a c.r.held.length v1c)) rfl ?_
 refine kA [2] ?_
 refine kSH 2 rfl (under_t (under_f rfl (under_t (under_t under_nil)))) (hv_build (e := 36) (K := 13) (bytes := 104) [.agg #[.int .i64 c.t.my,.int .i64 c.t.port,.int .i64 (nextOf c.s),.int .i64 c.r.next,.int .i64 20,.int .i64 (windowOf c.r),.int .i64 0,.int .i64 (-1),.bool false,.bool false,.int .i64 0,.int .i64 0,.string (⟨#[]⟩ : ByteArray)]] rfl (by kernel_rfl) (by kernel_rfl) (by kernel_rfl) (by kernel_rfl) (by kernel_rfl) (rs := ([⟨c.t.my,c.t.port,nextOf c.s,c.r.next,20,windowOf c.r,⟨0,(-1),false,false,0,0⟩,(⟨#[]⟩ : ByteArray)⟩] : List Seg).map segCells) rfl) ?_
 intro g13
 refine kTS [4] [3,2] 0 [(3,.v (.slice (some ⟨g13,0,none⟩) 1 1)),(2,.p 1 0)] ?_
 refine kZ ?_
 exact ⟨(g13),kF 4 0 [2,3]⟩
 intro g11
 refine kR ?_
 have hmod : tickConn c = (({ c with state := 8,timer := c.timer - 1,tries := 0 }),([⟨c.t.my,c.t.port,nextOf c.s,c.r.next,20,windowOf c.r,⟨0,(-1),false,false,0,0⟩,(⟨#[]⟩ : ByteArray)⟩] : List Seg)) := by first | rfl | (simp [tickConn,ackOf, *]; done) | (simp [tickConn,ackOf, *]; omega) | grind [tickConn,ackOf]
 exact ⟨[.agg (conL { c with state := 8,timer := c.timer - 1,tries := 0 } (.slice v1a c.r.held.length v1c)).toArray,.slice (some ⟨g11,0,none⟩) 1 1],by kernel_rfl,fun w' hb hf ha => by rw [hmod]; exact xo2 ((v1a,v1c),(((some ⟨g11,0,none⟩) : Option Addr),1)) rfl rfl (pO (hf _ m2) hB) (pR (hf _ m0) hB) (Apart.sub2 ha (i := 2) (j := 0) rfl rfl (by decide) rfl (fun b h => h) (fun b h => rowF_blk h)) hb⟩
 have h9p := eqF h9
 refine kK ?_
 refine kQ ?_
 refine kRF 5 [1,2,4] ⟨[(1,.p 0 0),(2,.p 1 0),(4,.p 2 0)],[⟨34,conL c (.slice Acrh c.r.held.length Ccrh)⟩,⟨34,conZ⟩,⟨34,conL { c with timer := c.timer - 1,tries := IntKind.i64.wrap (c.tries + 1) } (.slice v1a c.r.held.length v1c)⟩],[],[rowF w.heap.size 36 13 (.slice (some ⟨g2,0,none⟩) 0 0) (([] : List Seg).map segCells),ownF w.heap.size (.slice v1a c.r.held.length v1c) 2 (c.r.held.map pceCells),slF (.slice Acrh c.r.held.length Ccrh) 2 (c.r.held.map pceCells)]⟩ ?_
 refine xl_eq (st' := ⟨[(1,.p 0 0),(2,.p 1 0),(4,.p 2 0)],[⟨34,conL c (.slice Acrh c.r.held.length Ccrh)⟩,⟨34,conZ⟩,⟨34,conL { c with timer := c.timer - 1,tries := c.tries + 1 } (.slice v1a c.r.held.length v1c)⟩],[],[rowF w.heap.size 36 13 (.slice (some ⟨g2,0,none⟩) 0 0) (([] : List Seg).map segCells),ownF w.heap.size (.slice v1a c.r.held.length v1c) 2 (c.r.held.map pceCells),slF (.slice Acrh c.r.held.length Ccrh) 2 (c.r.held.map pceCells)]⟩) (by rw [show (IntKind.i64.wrap (c.tries + 1)) = (c.tries + 1) from wrap_id (by omega) (by omega)] <;> rfl) ?_
 refine kED [1,2,4] [] ?_
 refine kQ ?_
 refine kCD 2 [2,4,64] [(64,.v (.agg (sndL c.s).toArray))] 96 [.agg (sndL c.s).toArray] (some 65) rfl (xc_b fun ww hf => sRewound_c c.s.una c.s.data c.s.sent c.s.fin c.s.finSent c.s.done ww ) ?_
 intro _
 refine kEU [2,4] [] 2 ⟨34,conL { c with s := (rewound c.s),timer := c.timer - 1,tries := c.tries + 1 } (.slice v1a c.r.held.length v1c)⟩ ?_
 refine kS ?_
 refine xw_joinE (α := Option Addr × Nat × Option Addr × Nat) (fun y => (fun (v15a : Option Addr) (v15c : Nat) (v14a : Option Addr) (v14c : Nat) => (⟨[(2,.p 1 0),(7,.p 3 0),(8,.v (.slice v15a ((pump ({ c with s := (rewound c.s),timer := c.timer - 1,tries := c.tries + 1 }) (max 1 c.window)).2.length) v15c))],[⟨34,conL c (.slice Acrh c.r.held.length Ccrh)⟩,⟨34,conZ⟩,⟨34,conL { c with s := (rewound c.s),timer := c.timer - 1,tries := c.tries + 1 } (.slice v1a c.r.held.length v1c)⟩,⟨34,conL (pump ({ c with s := (rewound c.s),timer := c.timer - 1,tries := c.tries + 1 }) (max 1 c.window)).1 (.slice v14a ((pump ({ c with s := (rewound c.s),timer := c.timer - 1,tries := c.tries + 1 }) (max 1 c.window)).1.r.held.length) v14c)⟩],[],[ownF w.heap.size (.slice v14a ((pump ({ c with s := (rewound c.s),timer := c.timer - 1,tries := c.tries + 1 }) (max 1 c.window)).1.r.held.length) v14c) 2 ((pump ({ c with s := (rewound c.s),timer := c.timer - 1,tries := c.tries + 1 }) (max 1 c.window)).1.r.held.map pceCells),rowF w.heap.size 36 13 (.slice v15a ((pump ({ c with s := (rewound c.s),timer := c.timer - 1,tries := c.tries + 1 }) (max 1 c.window)).2.length) v15c) ((pump ({ c with s := (rewound c.s),timer := c.timer - 1,tries := c.tries + 1 }) (max 1 c.window)).2.map segCells),rowF w.heap.size 36 13 (.slice (some ⟨g2,0,none⟩) 0 0) (([] : List Seg).map segCells),ownF w.heap.size (.slice v1a c.r.held.length v1c) 2 (c.r.held.map pceCells),slF (.slice Acrh c.r.held.length Ccrh) 2 (c.r.held.map pceCells)]⟩ : St)) y.1 y.2.1 y.2.2.1 y.2.2.2) ?_ ?_
 refine xe_region [] (by kernel_rfl) (fun ρ σ => ?_)
 refine kTS [0,1,2] [70,68,2] 8 [(70,.v (.int .i64 c.window)),(68,.v (.agg (conL { c with s := (rewound c.s),timer := c.timer - 1,tries := c.tries + 1 } (.slice v1a c.r.held.length v1c)).toArray)),(2,.p 1 0)] ?_
 refine kA [3,8] ⟨?_,?_⟩
 refine kSC 3 97 [.int .i64 1,.int .i64 c.window] (some 71) rfl (xc_s fun ww hf => l1Max_c 1 c.window ww ) ?_
 intro _
 refine kA [4,8] ⟨?_,?_⟩
 refine kSC 4 37 [.agg (conL { c with s := (rewound c.s),timer := c.timer - 1,tries := c.tries + 1 } (.slice v1a c.r.held.length v1c)).toArray,.int .i64 (max 1 c.window)] (some 72) rfl (xc_r fun ww hw hf => ysPump_c ({ c with s := (rewound c.s),timer := c.timer - 1,tries := c.tries + 1 }) (.slice v1a c.r.held.length v1c) (max 1 c.window) ww (Own.sl (hf _ m1)) (by assumption) (by assumption) (by omega) (by omega) w.heap.size hw) ?_
 rintro ⟨⟨v14a,v14c⟩,⟨v15a,v15c⟩⟩
 have hbd16 : (pump ({ c with s := (rewound c.s),timer := c.timer - 1,tries := c.tries + 1 }) (max 1 c.window)).1.r.held.length ≤ 1048576 ∧ (pump ({ c with s := (rewound c.s),timer := c.timer - 1,tries := c.tries + 1 }) (max 1 c.window)).2.length ≤ 49 := pump_bd _ _  (by omega)
 have hbd16a := hbd16.1; have hbd16b := hbd16.2
 refine kTS [5,6,7] [74,73,2] 3 [(74,.v (.slice v15a ((pump ({ c with s := (rewound c.s),timer := c.timer - 1,tries := c.tries + 1 }) (max 1 c.window)).2.length) v15c)),(73,.v (.agg (conL (pump ({ c with s := (rewound c.s),timer := c.timer - 1,tries := c.tries + 1 }) (max 1 c.window)).1 (.slice v14a ((pump ({ c with s := (rewound c.s),timer := c.timer - 1,tries := c.tries + 1 }) (max 1 c.window)).1.r.held.length) v14c)).toArray)),(2,.p 1 0)] ?_
 refine kA [8] ?_
 refine xs_box 8 ⟨34,conZ⟩ _ rfl (by kernel_rfl) (by kernel_rfl) (by kernel_rfl) (by kernel_rfl) rfl ?_
 refine kA [9] ?_
 refine kSS 9 3 0 (conL (pump ({ c with s := (rewound c.s),timer := c.timer - 1,tries := c.tries + 1 }) (max 1 c.window)).1 (.slice v14a ((pump ({ c with s := (rewound c.s),timer := c.timer - 1,tries := c.tries + 1 }) (max 1 c.window)).1.r.held.length) v14c)) rfl ?_
 refine kTS [10] [8,7,2] 0 [(8,.v (.slice v15a ((pump ({ c with s := (rewound c.s),timer := c.timer - 1,tries := c.tries + 1 }) (max 1 c.window)).2.length) v15c)),(7,.p 3 0),(2,.p 1 0)] ?_
 refine kZ ?_
 exact ⟨(v15a,v15c,v14a,v14c),kF 4 0 [2,7,8]⟩
 refine xs_box 8 ⟨34,conZ⟩ _ rfl (by kernel_rfl) (by kernel_rfl) (by kernel_rfl) (by kernel_rfl) rfl ?_
 refine kA [4] ?_
 refine kSC 4 37 [.agg (conL { c with s := (rewound c.s),timer := c.timer - 1,tries := c.tries + 1 } (.slice v1a c.r.held.length v1c)).toArray,.int .i64 (max 1 c.window)] (some 72) rfl (xc_r fun ww hw hf => ysPump_c ({ c with s := (rewound c.s),timer := c.timer - 1,tries := c.tries + 1 }) (.slice v1a c.r.held.length v1c) (max 1 c.window) ww (Own.sl (hf _ m1)) (by assumption) (by assumption) (by omega) (by omega) w.heap.size hw) ?_
 rintro ⟨⟨v17a,v17c⟩,⟨v18a,v18c⟩⟩
 have hbd19 : (pump ({ c with s := (rewound c.s),timer := c.timer - 1,tries := c.tries + 1 }) (max 1 c.window)).1.r.held.length ≤ 1048576 ∧ (pump ({ c with s := (rewound c.s),timer := c.timer - 1,tries := c.tries + 1 }) (max 1 c.window)).2.length ≤ 49 := pump_bd _ _  (by omega)
 have hbd19a := hbd19.1; have hbd19b := hbd19.2
 refine kTS [5,6,7] [74,73,7,2] 2 [(74,.v (.slice v18a ((pump ({ c with s := (rewound c.s),timer := c.timer - 1,tries := c.tries + 1 }) (max 1 c.window)).2.length) v18c)),(73,.v (.agg (conL (pump ({ c with s := (rewound c.s),timer := c.timer - 1,tries := c.tries + 1 }) (max 1 c.window)).1 (.slice v17a ((pump ({ c with s := (rewound c.s),timer := c.timer - 1,tries := c.tries + 1 }) (max 1 c.window)).1.r.held.length) v17c)).toArray)),(7,.p 3 0),(2,.p 1 0)] ?_
 refine kA [9] ?_
 refine kSS 9 3 0 (conL (pump ({ c with s := (rewound c.s),timer := c.timer - 1,tries := c.tries + 1 }) (max 1 c.window)).1 (.slice v17a ((pump ({ c with s := (rewound c.s),timer := c.timer - 1,tries := c.tries + 1 }) (max 1 c.window)).1.r.held.length) v17c)) rfl ?_
 refine kTS [10] [8,7,2] 0 [(8,.v (.slice v18a ((pump ({ c with s := (rewound c.s),timer := c.timer - 1,tries := c.tries + 1 }) (max 1 c.window)).2.length) v18c)),(7,.p 3 0),(2,.p 1 0)] ?_
 refine kZ ?_
 exact ⟨(v18a,v18c,v17a,v17c),kF 4 0 [2,7,8]⟩
 refine xs_box 8 ⟨34,conZ⟩ _ rfl (by kernel_rfl) (by kernel_rfl) (by kernel_rfl) (by kernel_rfl) rfl ?_
 refine kA [3] ?_
 refine kSC 3 97 [.int .i64 1,.int .i64 c.window] (some 71) rfl (xc_s fun ww hf => l1Max_c 1 c.window ww ) ?_
 intro _
 refine kA [4] ?_
 refine kSC 4 37 [.agg (conL { c with s := (rewound c.s),timer := c.timer - 1,tries := c.tries + 1 } (.slice v1a c.r.held.length v1c)).toArray,.int .i64 (max 1 c.window)] (some 72) rfl (xc_r fun ww hw hf => ysPump_c ({ c with s := (rewound c.s),timer := c.timer - 1,tries := c.tries + 1 }) (.slice v1a c.r.held.length v1c) (max 1 c.window) ww (Own.sl (hf _ m1)) (by assumption) (by assumption) (by omega) (by omega) w.heap.size hw) ?_
 rintro ⟨⟨v20a,v20c⟩,⟨v21a,v21c⟩⟩
 have hbd22 : (pump ({ c with s := (rewound c.s),timer := c.timer - 1,tries := c.tries + 1 }) (max 1 c.window)).1.r.held.length ≤ 1048576 ∧ (pump ({ c with s := (rewound c.s),timer := c.timer - 1,tries := c.tries + 1 }) (max 1 c.window)).2.length ≤ 49 := pump_bd _ _  (by omega)
 have hbd22a := hbd22.1; have hbd22b := hbd22.2
 refine kTS [5,6,7] [74,73,7,2] 2 [(74,.v (.slice v21a ((pump ({ c with s := (rewound c.s),timer := c.timer - 1,tries := c.tries + 1 }) (max 1 c.window)).2.length) v21c)),(73,.v (.agg (conL (pump ({ c with s := (rewound c.s),timer := c.timer - 1,tries := c.tries + 1 }) (max 1 c.window)).1 (.slice v20a ((pump ({ c with s := (rewound c.s),timer := c.timer - 1,tries := c.tries + 1 }) (max 1 c.window)).1.r.held.length) v20c)).toArray)),(7,.p 3 0),(2,.p 1 0)] ?_
 refine kA [9] ?_
 refine kSS 9 3 0 (conL (pump ({ c with s := (rewound c.s),timer := c.timer - 1,tries := c.tries + 1 }) (max 1 c.window)).1 (.slice v20a ((pump ({ c with s := (rewound c.s),timer := c.timer - 1,tries := c.tries + 1 }) (max 1 c.window)).1.r.held.length) v20c)) rfl ?_
 refine kTS [10] [8,7,2] 0 [(8,.v (.slice v21a ((pump ({ c with s := (rewound c.s),timer := c.timer - 1,tries := c.tries + 1 }) (max 1 c.window)).2.length) v21c)),(7,.p 3 0),(2,.p 1 0)] ?_
 refine kZ ?_
 exact ⟨(v21a,v21c,v20a,v20c),kF 4 0 [2,7,8]⟩
 rintro ⟨v15a,v15c,v14a,v14c⟩
 refine kQ ?_
 refine kEF [2,7,8] ⟨[(2,.p 1 0),(7,.p 3 0),(8,.v (.slice v15a ((pump ({ c with s := (rewound c.s),timer := c.timer - 1,tries := c.tries + 1 }) (max 1 c.window)).2.length) v15c))],[⟨34,conL c (.slice Acrh c.r.held.length Ccrh)⟩,⟨34,conZ⟩,⟨34,conL { c with s := (rewound c.s),timer := c.timer - 1,tries := c.tries + 1 } (.slice v1a c.r.held.length v1c)⟩,⟨34,conL { (pump ({ c with s := (rewound c.s),timer := c.timer - 1,tries := c.tries + 1 }) (max 1 c.window)).1 with timer := 3 } (.slice v14a ((pump ({ c with s := (rewound c.s),timer := c.timer - 1,tries := c.tries + 1 }) (max 1 c.window)).1.r.held.length) v14c)⟩],[],[ownF w.heap.size (.slice v14a ((pump ({ c with s := (rewound c.s),timer := c.timer - 1,tries := c.tries + 1 }) (max 1 c.window)).1.r.held.length) v14c) 2 ((pump ({ c with s := (rewound c.s),timer := c.timer - 1,tries := c.tries + 1 }) (max 1 c.window)).1.r.held.map pceCells),rowF w.heap.size 36 13 (.slice v15a ((pump ({ c with s := (rewound c.s),timer := c.timer - 1,tries := c.tries + 1 }) (max 1 c.window)).2.length) v15c) ((pump ({ c with s := (rewound c.s),timer := c.timer - 1,tries := c.tries + 1 }) (max 1 c.window)).2.map segCells),rowF w.heap.size 36 13 (.slice (some ⟨g2,0,none⟩) 0 0) (([] : List Seg).map segCells),ownF w.heap.size (.slice v1a c.r.held.length v1c) 2 (c.r.held.map pceCells),slF (.slice Acrh c.r.held.length Ccrh) 2 (c.r.held.map pceCells)]⟩ ?_
 refine kQ ?_
 refine kEU [2,3] [(3,.v (.slice v15a ((pump ({ c with s := (rewound c.s),timer := c.timer - 1,tries := c.tries + 1 }) (max 1 c.window)).2.length) v15c))] 1 ⟨34,conL { (pump ({ c with s := (rewound c.s),timer := c.timer - 1,tries := c.tries + 1 }) (max 1 c.window)).1 with timer := 3 } (.slice v14a ((pump ({ c with s := (rewound c.s),timer := c.timer - 1,tries := c.tries + 1 }) (max 1 c.window)).1.r.held.length) v14c)⟩ ?_
 refine kR ?_
 have hmod : tickConn c = (({ (pump ({ c with s := (rewound c.s),timer := c.timer - 1,tries := c.tries + 1 }) (max 1 c.window)).1 with timer := 3 }),((pump ({ c with s := (rewound c.s),timer := c.timer - 1,tries := c.tries + 1 }) (max 1 c.window)).2)) := by first | rfl | (simp [tickConn,ackOf, *]; done) | (simp [tickConn,ackOf, *]; omega) | grind [tickConn,ackOf]
 exact ⟨[.agg (conL { (pump ({ c with s := (rewound c.s),timer := c.timer - 1,tries := c.tries + 1 }) (max 1 c.window)).1 with timer := 3 } (.slice v14a ((pump ({ c with s := (rewound c.s),timer := c.timer - 1,tries := c.tries + 1 }) (max 1 c.window)).1.r.held.length) v14c)).toArray,.slice v15a ((pump ({ c with s := (rewound c.s),timer := c.timer - 1,tries := c.tries + 1 }) (max 1 c.window)).2.length) v15c],by kernel_rfl,fun w' hb hf ha => by rw [hmod]; exact xo2 ((v14a,v14c),(v15a,v15c)) rfl rfl (pO (hf _ m0) hB) (pR (hf _ m1) hB) (Apart.sub2 ha (i := 0) (j := 1) rfl rfl (by decide) rfl (fun b h => h) (fun b h => rowF_blk h)) hb⟩
theorem yiShut_c (c : Con) (c_r_heldV : Value) (w : World) (hl_c_r_heldV : Sl w c_r_heldV 2 (c.r.held.map pceCells)) (hkn : c.r.held.length ≤ 1048576)(hm : ∀ p ∈ c.r.held, p.text.size ≤ 1048576) (hsz : c.r.data.size ≤ 4611686018427387904) (B : Nat) (hB : B ≤ w.heap.size) : Calls Tryz.prog 28 #[.agg (conL c c_r_heldV).toArray] w fun e w' => XRs w w' e (α := (Option Addr × Nat) × (Option Addr × Nat)) (fun y => .tuple #[.agg (conL (shut c).1 (.slice y.1.1 ((shut c).1.r.held.length) y.1.2)).toArray, .slice y.2.1 ((shut c).2.length) y.2.2]) (fun y => [ownF B (.slice y.1.1 ((shut c).1.r.held.length) y.1.2) 2 ((shut c).1.r.held.map pceCells), ownF B (.slice y.2.1 ((shut c).2.length) y.2.2) 13 ((shut c).2.map segCells)]) := by
 obtain ⟨Acrh,Ccrh,hvcrh⟩ := hl_c_r_heldV.form
 rw [List.length_map] at hvcrh; subst hvcrh
 have hncrh := hl_c_r_heldV.len; rw [List.length_map] at hncrh
 have hqcrh := Sl.capLe hl_c_r_heldV
 refine x_callsA (args := [.agg (conL c (.slice Acrh c.r.held.length Ccrh)).toArray]) (fn := Tryz.f28) [slF (.slice Acrh c.r.held.length Ccrh) 2 (c.r.held.map pceCells)] Tryz.func28 rfl Tryz.ntmps28 rfl (by simp only [List.mem_cons,List.not_mem_nil,or_false,forall_eq_or_imp,forall_eq]; exact ⟨rfl,hl_c_r_heldV⟩) ?_
 refine kQ ?_
 refine kEF [1,2] ⟨[(1,.p 0 0),(2,.p 1 0)],[⟨34,conL c (.slice Acrh c.r.held.length Ccrh)⟩,⟨34,conZ⟩],[],[slF (.slice Acrh c.r.held.length Ccrh) 2 (c.r.held.map pceCells)]⟩ ?_
 refine kQ ?_
 refine kCS 1 [1,2,5] [(1,.p 0 0),(2,.p 1 0),(5,.v (.agg (conL c (.slice Acrh c.r.held.length Ccrh)).toArray))] 67 [.agg (conL c (.slice Acrh c.r.held.length Ccrh)).toArray] (some 6) rfl (xc_r fun ww hw hf => ycloneConn_c c (.slice Acrh c.r.held.length Ccrh) ww (hf _ m0) (by assumption) w.heap.size hw) ?_
 rintro ⟨v1a,v1c⟩
 refine kEF [1,2,4] ⟨[(1,.p 0 0),(2,.p 1 0),(4,.p 2 0)],[⟨34,conL c (.slice Acrh c.r.held.length Ccrh)⟩,⟨34,conZ⟩,⟨34,conL c (.slice v1a c.r.held.length v1c)⟩],[],[ownF w.heap.size (.slice v1a c.r.held.length v1c) 2 (c.r.held.map pceCells),slF (.slice Acrh c.r.held.length Ccrh) 2 (c.r.held.map pceCells)]⟩ ?_
 refine kS ?_
 refine kQ ?_
 refine kCS 1 [1,2,4,7] [(1,.p 0 0),(2,.p 1 0),(4,.p 2 0),(7,.v (.agg (conL c (.slice Acrh c.r.held.length Ccrh)).toArray))] 24 [.agg (conL c (.slice Acrh c.r.held.length Ccrh)).toArray] (some 8) rfl (xc_b fun ww hf => yiConnOk_c c (.slice Acrh c.r.held.length Ccrh) ww (hf _ m1) (by assumption) (by omega)) ?_
 intro _
 refine kES [1,2,4,9] [(1,.p 0 0),(2,.p 1 0),(4,.p 2 0),(9,.v (.bool (!(conOk c))))] ?_
 refine kC (!(conOk c)) (fun h2 => ?_) (fun h2 => ?_)
 have h2n := not_t h2
 refine kQ ?_
 refine kEF [2,3] ⟨[(2,.p 1 0),(3,.v (.slice none 0 0))],[⟨34,conL c (.slice Acrh c.r.held.length Ccrh)⟩,⟨34,conL c (.slice v1a c.r.held.length v1c)⟩,⟨34,conL c (.slice v1a c.r.held.length v1c)⟩],[],[ownF w.heap.size (.slice v1a c.r.held.length v1c) 2 (c.r.held.map pceCells),slF (.slice Acrh c.r.held.length Ccrh) 2 (c.r.held.map pceCells)]⟩ ?_
 refine kR ?_
 have hmod : shut c = (c,[]) := by first | rfl | (simp [shut, *]; done) | grind [shut]
 exact ⟨[.agg (conL c (.slice v1a c.r.held.length v1c)).toArray,.slice none 0 0],by kernel_rfl,fun w' hb hf ha => by rw [hmod]; exact xo2 ((v1a,v1c),(none,0)) rfl rfl (pO (hf _ m0) hB) ⟨.inl ⟨rfl,_,rfl⟩,fun b hb => (hb.1 rfl).elim⟩ (apart_nil2 rfl) hb⟩
 have h2n := not_f h2
 have h2nc : conOk c = true := (by simpa using h2n)
 have h2nq := conOk_bd h2nc; obtain ⟨h2nq0,h2nq1,h2nq2,h2nq3,h2nq4,h2nq5,h2nq6,h2nq7,h2nq8,h2nq9⟩ := h2nq
 refine kK ?_
 refine kS ?_
 refine kQ ?_
 refine kES [2,4,12] [(2,.p 1 0),(4,.p 2 0),(12,.v (.int .i64 c.state))] ?_
 refine xw_block ?_
 refine kQ ?_
 refine kES [2,4,12,14] [(2,.p 1 0),(4,.p 2 0),(12,.v (.int .i64 c.state)),(14,.v (.bool (c.state == 1)))] ?_
 refine kC (c.state == 1) (fun h3 => ?_) (fun h3 => ?_)
 have h3p := eqT h3
 refine kG ?_
 refine kEF [2,4] ⟨[(2,.p 1 0),(4,.p 2 0)],[⟨34,conL c (.slice Acrh c.r.held.length Ccrh)⟩,⟨34,conZ⟩,⟨34,conL { c with state := 2 } (.slice v1a c.r.held.length v1c)⟩],[],[ownF w.heap.size (.slice v1a c.r.held.length v1c) 2 (c.r.held.map pceCells),slF (.slice Acrh c.r.held.length Ccrh) 2 (c.r.held.map pceCells)]⟩ ?_
 refine kQ ?_
 refine kEF [2,4] ⟨[(2,.p 1 0),(4,.p 2 0)],[⟨34,conL c (.slice Acrh c.r.held.length Ccrh)⟩,⟨34,conZ⟩,⟨34,conL { c with state := 2,s := { c.s with fin := true } } (.slice v1a c.r.held.length v1c)⟩],[],[ownF w.heap.size (.slice v1a c.r.held.length v1c) 2 (c.r.held.map pceCells),slF (.slice Acrh c.r.held.length Ccrh) 2 (c.r.held.map pceCells)]⟩ ?_
 refine kQ ?_
 refine kCS 3 [2,22,24] [(2,.p 1 0),(22,.v (.agg (conL { c with state := 2,s := { c.s with fin := true } } (.slice v1a c.r.held.length v1c)).toArray)),(24,.v (.int .i64 c.window))] 36 [.agg (conL { c with state := 2,s := { c.s with fin := true } } (.slice v1a c.r.held.length v1c)).toArray,.int .i64 c.window] (some 25) rfl (xc_r fun ww hw hf => yiPump_c ({ c with state := 2,s := { c.s with fin := true } }) (.slice v1a c.r.held.length v1c) c.window ww (Own.sl (hf _ m0)) (by assumption) (by assumption) (by omega) (by omega) w.heap.size hw) ?_
 rintro ⟨⟨v4a,v4c⟩,⟨v5a,v5c⟩⟩
 have hbd6 : (pump ({ c with state := 2,s := { c.s with fin := true } }) c.window).1.r.held.length ≤ 1048576 ∧ (pump ({ c with state := 2,s := { c.s with fin := true } }) c.window).2.length ≤ 49 := pump_bd _ _  (by omega)
 have hbd6a := hbd6.1; have hbd6b := hbd6.2
 refine kEF [2,3] ⟨[(2,.p 1 0),(3,.v (.slice v5a ((pump ({ c with state := 2,s := { c.s with fin := true } }) c.window).2.length) v5c))],[⟨34,conL c (.slice Acrh c.r.held.length Ccrh)⟩,⟨34,conL (pump ({ c with state := 2,s := { c.s with fin := true } }) c.window).1 (.slice v4a ((pump ({ c with state := 2,s := { c.s with fin := true } }) c.window).1.r.held.length) v4c)⟩,⟨34,conL { c with state := 2,s := { c.s with fin := true } } (.slice v1a c.r.held.length v1c)⟩],[],[ownF w.heap.size (.slice v4a ((pump ({ c with state := 2,s := { c.s with fin := true } }) c.window).1.r.held.length) v4c) 2 ((pump ({ c with state := 2,s := { c.s with fin := true } }) c.window).1.r.held.map pceCells),ownF w.heap.size (.slice v5a ((pump ({ c with state := 2,s := { c.s with fin := true } }) c.window).2.length) v5c) 13 ((pump ({ c with state := 2,s := { c.s with fin := true } }) c.window).2.map segCells),ownF w.heap.size (.slice v1a c.r.held.length v1c) 2 (c.r.held.map pceCells),slF (.slice Acrh c.r.held.length Ccrh) 2 (c.r.held.map pceCells)]⟩ ?_
 refine kR ?_
 have hmod : shut c = (((pump ({ c with state := 2,s := { c.s with fin := true } }) c.window).1),((pump ({ c with state := 2,s := { c.s with fin := true } }) c.window).2)) := by first | rfl | (simp [shut, *]; done) | grind [shut]
 exact ⟨[.agg (conL (pump ({ c with state := 2,s := { c.s with fin := true } }) c.window).1 (.slice v4a ((pump ({ c with state := 2,s := { c.s with fin := true } }) c.window).1.r.held.length) v4c)).toArray,.slice v5a ((pump ({ c with state := 2,s := { c.s with fin := true } }) c.window).2.length) v5c],by kernel_rfl,fun w' hb hf ha => by rw [hmod]; exact xo2 ((v4a,v4c),(v5a,v5c)) rfl rfl (pO (hf _ m0) hB) (pO (hf _ m1) hB) (Apart.sub2 ha (i := 0) (j := 1) rfl rfl (by decide) rfl (fun b h => h) (fun b h => h)) hb⟩
 have h3p := eqF h3
 refine kQ ?_
 refine kES [2,4,17] [(2,.p 1 0),(4,.p 2 0),(17,.v (.bool (c.state == 4)))] ?_
 refine kC (c.state == 4) (fun h7 => ?_) (fun h7 => ?_)
 have h7p := eqT h7
 refine kG ?_
 refine kEF [2,4] ⟨[(2,.p 1 0),(4,.p 2 0)],[⟨34,conL c (.slice Acrh c.r.held.length Ccrh)⟩,⟨34,conZ⟩,⟨34,conL { c with state := 6 } (.slice v1a c.r.held.length v1c)⟩],[],[ownF w.heap.size (.slice v1a c.r.held.length v1c) 2 (c.r.held.map pceCells),slF (.slice Acrh c.r.held.length Ccrh) 2 (c.r.held.map pceCells)]⟩ ?_
 refine kQ ?_
 refine kEF [2,4] ⟨[(2,.p 1 0),(4,.p 2 0)],[⟨34,conL c (.slice Acrh c.r.held.length Ccrh)⟩,⟨34,conZ⟩,⟨34,conL { c with state := 6,s := { c.s with fin := true } } (.slice v1a c.r.held.length v1c)⟩],[],[ownF w.heap.size (.slice v1a c.r.held.length v1c) 2 (c.r.held.map pceCells),slF (.slice Acrh c.r.held.length Ccrh) 2 (c.r.held.map pceCells)]⟩ ?_
 refine kQ ?_
 refine kCS 3 [2,22,24] [(2,.p 1 0),(22,.v (.agg (conL { c with state := 6,s := { c.s with fin := true } } (.slice v1a c.r.held.length v1c)).toArray)),(24,.v (.int .i64 c.window))] 36 [.agg (conL { c with state := 6,s := { c.s with fin := true } } (.slice v1a c.r.held.length v1c)).toArray,.int .i64 c.window] (some 25) rfl (xc_r fun ww hw hf => yiPump_c ({ c with state := 6,s := { c.s with fin := true } }) (.slice v1a c.r.held.length v1c) c.window ww (Own.sl (hf _ m0)) (by assumption) (by assumption) (by omega) (by omega) w.heap.size hw) ?_
 rintro ⟨⟨v8a,v8c⟩,⟨v9a,v9c⟩⟩
 have hbd10 : (pump ({ c with state := 6,s := { c.s with fin := true } }) c.window).1.r.held.length ≤ 1048576 ∧ (pump ({ c with state := 6,s := { c.s with fin := true } }) c.window).2.length ≤ 49 := pump_bd _ _  (by omega)
 have hbd10a := hbd10.1; have hbd10b := hbd10.2
 refine kEF [2,3] ⟨[(2,.p 1 0),(3,.v (.slice v9a ((pump ({ c with state := 6,s := { c.s with fin := true } }) c.window).2.length) v9c))],[⟨34,conL c (.slice Acrh c.r.held.length Ccrh)⟩,⟨34,conL (pump ({ c with state := 6,s := { c.s with fin := true } }) c.window).1 (.slice v8a ((pump ({ c with state := 6,s := { c.s with fin := true } }) c.window).1.r.held.length) v8c)⟩,⟨34,conL { c with state := 6,s := { c.s with fin := true } } (.slice v1a c.r.held.length v1c)⟩],[],[ownF w.heap.size (.slice v8a ((pump ({ c with state := 6,s := { c.s with fin := true } }) c.window).1.r.held.length) v8c) 2 ((pump ({ c with state := 6,s := { c.s with fin := true } }) c.window).1.r.held.map pceCells),ownF w.heap.size (.slice v9a ((pump ({ c with state := 6,s := { c.s with fin := true } }) c.window).2.length) v9c) 13 ((pump ({ c with state := 6,s := { c.s with fin := true } }) c.window).2.map segCells),ownF w.heap.size (.slice v1a c.r.held.length v1c) 2 (c.r.held.map pceCells),slF (.slice Acrh c.r.held.length Ccrh) 2 (c.r.held.map pceCells)]⟩ ?_
 refine kR ?_
 have hmod : shut c = (((pump ({ c with state := 6,s := { c.s with fin := true } }) c.window).1),((pump ({ c with state := 6,s := { c.s with fin := true } }) c.window).2)) := by first | rfl | (simp [shut, *]; done) | grind [shut]
 exact ⟨[.agg (conL (pump ({ c with state := 6,s := { c.s with fin := true } }) c.window).1 (.slice v8a ((pump ({ c with state := 6,s := { c.s with fin := true } }) c.window).1.r.held.length) v8c)).toArray,.slice v9a ((pump ({ c with state := 6,s := { c.s with fin := true } }) c.window).2.length) v9c],by kernel_rfl,fun w' hb hf ha => by rw [hmod]; exact xo2 ((v8a,v8c),(v9a,v9c)) rfl rfl (pO (hf _ m0) hB) (pO (hf _ m1) hB) (Apart.sub2 ha (i := 0) (j := 1) rfl rfl (by decide) rfl (fun b h => h) (fun b h => h)) hb⟩
 have h7p := eqF h7
 refine kQ ?_
 refine kEF [2,3] ⟨[(2,.p 1 0),(3,.v (.slice none 0 0))],[⟨34,conL c (.slice Acrh c.r.held.length Ccrh)⟩,⟨34,conL c (.slice v1a c.r.held.length v1c)⟩,⟨34,conL c (.slice v1a c.r.held.length v1c)⟩],[],[ownF w.heap.size (.slice v1a c.r.held.length v1c) 2 (c.r.held.map pceCells),slF (.slice Acrh c.r.held.length Ccrh) 2 (c.r.held.map pceCells)]⟩ ?_
 refine kR ?_
 have hmod : shut c = (c,[]) := by first | rfl | (simp [shut, *]; done) | grind [shut]
 exact ⟨[.agg (conL c (.slice v1a c.r.held.length v1c)).toArray,.slice none 0 0],by kernel_rfl,fun w' hb hf ha => by rw [hmod]; exact xo2 ((v1a,v1c),(none,0)) rfl rfl (pO (hf _ m0) hB) ⟨.inl ⟨rfl,_,rfl⟩,fun b hb => (hb.1 rfl).elim⟩ (apart_nil2 rfl) hb⟩
theorem yiWrite_c (c : Con) (c_r_heldV : Value) (text : ByteArray) (w : World) (hl_c_r_heldV : Sl w c_r_heldV 2 (c.r.held.map pceCells)) (hkn : c.r.held.length ≤ 1048576)(hm : ∀ p ∈ c.r.held, p.text.size ≤ 1048576) (hsz : c.r.data.size ≤ 4611686018427387904) (hts : text.size ≤ 4611686018427387904) (B : Nat) (hB : B ≤ w.heap.size) : Calls Tryz.prog 32 #[.agg (conL c c_r_heldV).toArray, .string text] w fun e w' => XRs w w' e (α := (Option Addr × Nat) × (Option Addr × Nat)) (fun y => .tuple #[.agg (conL (write c text).1 (.slice y.1.1 ((write c text).1.r.held.length) y.1.2)).toArray, .int .i64 ((write c text).2.1), .slice y.2.1 ((write c text).2.2.length) y.2.2]) (fun y => [ownF B (.slice y.1.1 ((write c text).1.r.held.length) y.1.2) 2 ((write c text).1.r.held.map pceCells), ownF B (.slice y.2.1 ((write c text).2.2.length) y.2.2) 13 ((write c text).2.2.map segCells)]) := by
 obtain ⟨Acrh,Ccrh,hvcrh⟩ := hl_c_r_heldV.form
 rw [List.length_map] at hvcrh; subst hvcrh
 have hncrh := hl_c_r_heldV.len; rw [List.length_map] at hncrh
 have hqcrh := Sl.capLe hl_c_r_heldV
 refine x_callsA (args := [.agg (conL c (.slice Acrh c.r.held.length Ccrh)).toArray,.string text]) (fn := Tryz.f32) [slF (.slice Acrh c.r.held.length Ccrh) 2 (c.r.held.map pceCells)] Tryz.func32 rfl Tryz.ntmps32 rfl (by simp only [List.mem_cons,List.not_mem_nil,or_false,forall_eq_or_imp,forall_eq]; exact ⟨rfl,hl_c_r_heldV⟩) ?_
 refine kQ ?_
 refine kEF [1,2,4] ⟨[(1,.v (.string text)),(2,.p 0 0),(4,.p 1 0)],[⟨34,conL c (.slice Acrh c.r.held.length Ccrh)⟩,⟨34,conZ⟩],[],[slF (.slice Acrh c.r.held.length Ccrh) 2 (c.r.held.map pceCells)]⟩ ?_
 refine kS ?_
 refine kS ?_
 refine xw_join ⟨[(1,.v (.string text)),(2,.p 0 0),(4,.p 1 0),(23,.v (.bool ((!(conOk c)) || ((c.state != 1) && (c.state != 4)))))],[⟨34,conL c (.slice Acrh c.r.held.length Ccrh)⟩,⟨34,conZ⟩],[],[slF (.slice Acrh c.r.held.length Ccrh) 2 (c.r.held.map pceCells)]⟩ ?_ ?_
 refine kG ?_
 refine kCS 1 [1,2,4,11] [(1,.v (.string text)),(2,.p 0 0),(4,.p 1 0),(11,.v (.agg (conL c (.slice Acrh c.r.held.length Ccrh)).toArray))] 24 [.agg (conL c (.slice Acrh c.r.held.length Ccrh)).toArray] (some 12) rfl (xc_b fun ww hf => yiConnOk_c c (.slice Acrh c.r.held.length Ccrh) ww (hf _ m0) (by assumption) (by omega)) ?_
 intro _
 refine kRS 2 [1,2,4,14] [(1,.v (.string text)),(2,.p 0 0),(4,.p 1 0),(14,.v (.bool (!(conOk c))))] ?_
 refine kP 14 (!(conOk c)) (fun h1 => ?_) (fun h1 => ?_)
 have h1n := not_t h1
 refine kES [1,2,4,23] [(1,.v (.string text)),(2,.p 0 0),(4,.p 1 0),(23,.v (.bool true))] ?_
 show Wk _ _
 try rw [h1]
 exact kF 2 0 [1,2,4,23]
 have h1n := not_f h1
 have h1nc : conOk c = true := (by simpa using h1n)
 have h1nq := conOk_bd h1nc; obtain ⟨h1nq0,h1nq1,h1nq2,h1nq3,h1nq4,h1nq5,h1nq6,h1nq7,h1nq8,h1nq9⟩ := h1nq
 refine kRS 4 [1,2,4,14,18] [(1,.v (.string text)),(2,.p 0 0),(4,.p 1 0),(14,.v (.bool false)),(18,.v (.bool (c.state != 1)))] ?_
 refine kP 18 (c.state != 1) (fun h2 => ?_) (fun h2 => ?_)
 have h2p := neT h2
 refine kES [1,2,4,23] [(1,.v (.string text)),(2,.p 0 0),(4,.p 1 0),(23,.v (.bool (c.state != 4)))] ?_
 show Wk _ _
 try rw [h1]
 try rw [h2]
 exact kF 2 0 [1,2,4,23]
 have h2p := neF h2
 refine kES [1,2,4,23] [(1,.v (.string text)),(2,.p 0 0),(4,.p 1 0),(23,.v (.bool false))] ?_
 show Wk _ _
 try rw [h1]
 try rw [h2]
 exact kF 2 0 [1,2,4,23]
 refine kC ((!(conOk c)) || ((c.state != 1) && (c.state != 4))) (fun h3 => ?_) (fun h3 => ?_)
 refine kQ ?_
 refine kCS 1 [4,24] [(4,.p 1 0),(24,.v (.agg (conL c (.slice Acrh c.r.held.length Ccrh)).toArray))] 67 [.agg (conL c (.slice Acrh c.r.held.length Ccrh)).toArray] (some 25) rfl (xc_r fun ww hw hf => ycloneConn_c c (.slice Acrh c.r.held.length Ccrh) ww (hf _ m0) (by assumption) w.heap.size hw) ?_
 rintro ⟨v4a,v4c⟩
 refine kEF [4,5,6] ⟨[(4,.p 1 0),(5,.v (.int .i64 0)),(6,.v (.slice none 0 0))],[⟨34,conL c (.slice Acrh c.r.held.length Ccrh)⟩,⟨34,conL c (.slice v4a c.r.held.length v4c)⟩],[],[ownF w.heap.size (.slice v4a c.r.held.length v4c) 2 (c.r.held.map pceCells),slF (.slice Acrh c.r.held.length Ccrh) 2 (c.r.held.map pceCells)]⟩ ?_
 refine kR ?_
 have hmod : write c text = (c,0,[]) := by first | rfl | (simp [write, *]; done) | grind [write]
 exact ⟨[.agg (conL c (.slice v4a c.r.held.length v4c)).toArray,.int .i64 0,.slice none 0 0],by kernel_rfl,fun w' hb hf ha => by rw [hmod]; exact xo2 ((v4a,v4c),(none,0)) rfl rfl (pO (hf _ m0) hB) ⟨.inl ⟨rfl,_,rfl⟩,fun b hb => (hb.1 rfl).elim⟩ (apart_nil2 rfl) hb⟩
 have h3l := or_l h3
 have h3ln := not_f h3l
 have h3lnc : conOk c = true := (by simpa using h3ln)
 have h3lnq := conOk_bd h3lnc; obtain ⟨h3lnq0,h3lnq1,h3lnq2,h3lnq3,h3lnq4,h3lnq5,h3lnq6,h3lnq7,h3lnq8,h3lnq9⟩ := h3lnq
 have h3r := or_r h3
 refine kK ?_
 refine kQ ?_
 refine kCS 3 [2,4,28,29] [(2,.p 0 0),(4,.p 1 0),(28,.v (.agg (sndL c.s).toArray)),(29,.v (.string text))] 84 [.agg (sndL c.s).toArray,.string text] (some 30) rfl (xc_b fun ww hf => yiQueued_c c.s text ww  (by first | omega | (rw [bstr_size]; omega))) ?_
 intro _
 refine kEF [2,4,7,8] ⟨[(2,.p 0 0),(4,.p 1 0),(7,.p 2 0),(8,.v (.int .i64 ((queued c.s text).2)))],[⟨34,conL c (.slice Acrh c.r.held.length Ccrh)⟩,⟨34,conZ⟩,⟨27,sndL (queued c.s text).1⟩],[],[slF (.slice Acrh c.r.held.length Ccrh) 2 (c.r.held.map pceCells)]⟩ ?_
 refine kQ ?_
 refine kEF [2,4,8] ⟨[(2,.p 0 0),(4,.p 1 0),(8,.v (.int .i64 ((queued c.s text).2)))],[⟨34,conL { c with s := (queued c.s text).1 } (.slice Acrh c.r.held.length Ccrh)⟩,⟨34,conZ⟩,⟨27,sndL (queued c.s text).1⟩],[],[slF (.slice Acrh c.r.held.length Ccrh) 2 (c.r.held.map pceCells)]⟩ ?_
 refine kQ ?_
 refine kCS 3 [4,8,36,38] [(4,.p 1 0),(8,.v (.int .i64 ((queued c.s text).2))),(36,.v (.agg (conL { c with s := (queued c.s text).1 } (.slice Acrh c.r.held.length Ccrh)).toArray)),(38,.v (.int .i64 c.window))] 36 [.agg (conL { c with s := (queued c.s text).1 } (.slice Acrh c.r.held.length Ccrh)).toArray,.int .i64 c.window] (some 39) rfl (xc_r fun ww hw hf => yiPump_c ({ c with s := (queued c.s text).1 }) (.slice Acrh c.r.held.length Ccrh) c.window ww (hf _ m0) (by assumption) (by assumption) (by omega) (by omega) w.heap.size hw) ?_
 rintro ⟨⟨v5a,v5c⟩,⟨v6a,v6c⟩⟩
 have hbd7 : (pump ({ c with s := (queued c.s text).1 }) c.window).1.r.held.length ≤ 1048576 ∧ (pump ({ c with s := (queued c.s text).1 }) c.window).2.length ≤ 49 := pump_bd _ _  (by omega)
 have hbd7a := hbd7.1; have hbd7b := hbd7.2
 refine kEF [4,8,9,10] ⟨[(4,.p 1 0),(8,.v (.int .i64 ((queued c.s text).2))),(9,.p 3 0),(10,.v (.slice v6a ((pump ({ c with s := (queued c.s text).1 }) c.window).2.length) v6c))],[⟨34,conL { c with s := (queued c.s text).1 } (.slice Acrh c.r.held.length Ccrh)⟩,⟨34,conZ⟩,⟨27,sndL (queued c.s text).1⟩,⟨34,conL (pump ({ c with s := (queued c.s text).1 }) c.window).1 (.slice v5a ((pump ({ c with s := (queued c.s text).1 }) c.window).1.r.held.length) v5c)⟩],[],[ownF w.heap.size (.slice v5a ((pump ({ c with s := (queued c.s text).1 }) c.window).1.r.held.length) v5c) 2 ((pump ({ c with s := (queued c.s text).1 }) c.window).1.r.held.map pceCells),ownF w.heap.size (.slice v6a ((pump ({ c with s := (queued c.s text).1 }) c.window).2.length) v6c) 13 ((pump ({ c with s := (queued c.s text).1 }) c.window).2.map segCells),slF (.slice Acrh c.r.held.length Ccrh) 2 (c.r.held.map pceCells)]⟩ ?_
 refine kQ ?_
 refine kEF [4,5,6] ⟨[(4,.p 1 0),(5,.v (.int .i64 ((queued c.s text).2))),(6,.v (.slice v6a ((pump ({ c with s := (queued c.s text).1 }) c.window).2.length) v6c))],[⟨34,conL { c with s := (queued c.s text).1 } (.slice Acrh c.r.held.length Ccrh)⟩,⟨34,conL (pump ({ c with s := (queued c.s text).1 }) c.window).1 (.slice v5a ((pump ({ c with s := (queued c.s text).1 }) c.window).1.r.held.length) v5c)⟩,⟨27,sndL (queued c.s text).1⟩,⟨34,conL (pump ({ c with s := (queued c.s text).1 }) c.window).1 (.slice v5a ((pump ({ c with s := (queued c.s text).1 }) c.window).1.r.held.length) v5c)⟩],[],[ownF w.heap.size (.slice v5a ((pump ({ c with s := (queued c.s text).1 }) c.window).1.r.held.length) v5c) 2 ((pump ({ c with s := (queued c.s text).1 }) c.window).1.r.held.map pceCells),ownF w.heap.size (.slice v6a ((pump ({ c with s := (queued c.s text).1 }) c.window).2.length) v6c) 13 ((pump ({ c with s := (queued c.s text).1 }) c.window).2.map segCells),slF (.slice Acrh c.r.held.length Ccrh) 2 (c.r.held.map pceCells)]⟩ ?_
 refine kR ?_
 have hmod : write c text = (((pump ({ c with s := (queued c.s text).1 }) c.window).1),((queued c.s text).2),((pump ({ c with s := (queued c.s text).1 }) c.window).2)) := by first | rfl | (simp [write, *]; done) | grind [write]
 exact ⟨[.agg (conL (pump ({ c with s := (queued c.s text).1 }) c.window).1 (.slice v5a ((pump ({ c with s := (queued c.s text).1 }) c.window).1.r.held.length) v5c)).toArray,.int .i64 ((queued c.s text).2),.slice v6a ((pump ({ c with s := (queued c.s text).1 }) c.window).2.length) v6c],by kernel_rfl,fun w' hb hf ha => by rw [hmod]; exact xo2 ((v5a,v5c),(v6a,v6c)) rfl rfl (pO (hf _ m0) hB) (pO (hf _ m1) hB) (Apart.sub2 ha (i := 0) (j := 1) rfl rfl (by decide) rfl (fun b h => h) (fun b h => h)) hb⟩
theorem ysReceiverNew_c (n : Int) (w : World)  (B : Nat) (hB : B ≤ w.heap.size) : Calls Tryz.prog 135 #[.int .i64 n] w fun e w' => XRs w w' e (α := Option Addr × Nat) (fun y => .agg (rcvL (receiverNew n) (.slice y.1 ((receiverNew n).held.length) y.2)).toArray) (fun y => [rowF B 108 2 (.slice y.1 ((receiverNew n).held.length) y.2) ((receiverNew n).held.map pceCells)]) := by
 refine x_callsA (args := [.int .i64 n]) (fn := Tryz.f135) [] Tryz.func135 rfl Tryz.ntmps135 rfl (by simp) ?_
 refine kQ ?_
 refine kEF [0,2] ⟨[(0,.v (.int .i64 n)),(2,.p 0 0)],[⟨30,rcvZ⟩],[],[]⟩ ?_
 refine kQ ?_
 refine kCS 1 [2,3] [(2,.p 0 0),(3,.v (.int .i64 n))] 104 [.int .i64 n] (some 4) rfl (xc_s fun ww hf => sRest_c n ww ) ?_
 intro _
 refine kOS 0 [2,4] [(2,.p 0 0),(4,.v (.int .i64 (n % 4294967296)))] (.agg #[.int .i64 (n % 4294967296),.string (⟨#[]⟩ : ByteArray),.slice none 0 0,.int .i64 (-1),.bool false]) rfl (fun _ _ _ ww hr => act_build [(0,.int .i64 (n % 4294967296)),(3,.int .i64 (-1))] hr.1 rfl (by kernel_rfl) (by kernel_rfl) ww) ?_
 refine kEF [2] ⟨[(2,.p 0 0)],[⟨30,[.int .i64 (n % 4294967296),.string (⟨#[]⟩ : ByteArray),.slice none 0 0,.int .i64 (-1),.bool false]⟩],[],[]⟩ ?_
 refine kR ?_
 have hmod : receiverNew n = (⟨n % 4294967296,(⟨#[]⟩ : ByteArray),[],(-1),false⟩) := by first | rfl | (simp [receiverNew,seqAdd]; done)
 exact ⟨[.agg #[.int .i64 (n % 4294967296),.string (⟨#[]⟩ : ByteArray),.slice none 0 0,.int .i64 (-1),.bool false]],by kernel_rfl,fun w' hb hf ha => by rw [hmod]; exact xo1 ((none,0)) rfl rfl ⟨rowF_nil _ _ _ _,fun b hb => (nilF_b _ _ _ _ hb).elim⟩ hb⟩
theorem ysConnNew_c (t : Tup) (iss : Int) (irs : Int) (o : Opt) (window : Int) (w : World)  (B : Nat) (hB : B ≤ w.heap.size) : Calls Tryz.prog 124 #[.agg (tupL t).toArray, .int .i64 iss, .int .i64 irs, .agg (optL o).toArray, .int .i64 window] w fun e w' => XRs w w' e (α := Option Addr × Nat) (fun y => .agg (conL (connNew t iss irs o window) (.slice y.1 ((connNew t iss irs o window).r.held.length) y.2)).toArray) (fun y => [ownF B (.slice y.1 ((connNew t iss irs o window).r.held.length) y.2) 2 ((connNew t iss irs o window).r.held.map pceCells)]) := by
 refine x_callsA (args := [.agg (tupL t).toArray,.int .i64 iss,.int .i64 irs,.agg (optL o).toArray,.int .i64 window]) (fn := Tryz.f124) [] Tryz.func124 rfl Tryz.ntmps124 rfl (by simp) ?_
 refine kQ ?_
 refine kEF [1,2,4,5,8,10] ⟨[(1,.v (.int .i64 iss)),(2,.v (.int .i64 irs)),(4,.v (.int .i64 window)),(5,.p 0 0),(8,.p 1 0),(10,.p 2 0)],[⟨25,tupL t⟩,⟨32,optL o⟩,⟨34,conZ⟩],[],[]⟩ ?_
 refine kS ?_
 refine kQ ?_
 refine kCD 1 [1,2,4,5,8,10,12] [(12,.v (.agg (optL o).toArray))] 77 [.agg (optL o).toArray] (some 13) rfl (xc_b fun ww hf => sOptionsOk_c o.mss o.scale o.sack o.stamp o.val o.echo ww ) ?_
 intro _
 refine kED [1,2,4,5,8,10,14] [(14,.v (.bool (!(optionsOk o))))] ?_
 refine kC (!(optionsOk o)) (fun h1 => ?_) (fun h1 => ?_)
 have h1n := not_t h1
 refine kG ?_
 refine kCD 0 [1,2,4,5,8,10] [] 117 [] (some 15) rfl (xc_b fun ww hf => sNoOptions_c  ww ) ?_
 intro _
 refine kEU [1,2,4,5,8,10] [] 1 ⟨32,[.int .i64 0,.int .i64 (-1),.bool false,.bool false,.int .i64 0,.int .i64 0]⟩ ?_
 refine kS ?_
 refine kQ ?_
 refine kCD 1 [1,2,4,5,8,10,16] [(16,.v (.int .i64 window))] 94 [.int .i64 window,.int .i64 16] (some 17) rfl (xc_s fun ww hf => sWordOk16_c window ww) ?_
 intro _
 refine kED [1,2,4,5,8,10,18] [(18,.v (.bool (!(wordOk window 16))))] ?_
 refine kC (!(wordOk window 16)) (fun h2 => ?_) (fun h2 => ?_)
 have h2n := not_t h2
 refine kG ?_
 refine kED [1,2,4,5,8,10] [(4,.v (.int .i64 0))] ?_
 refine kQ ?_
 refine kCD 3 [1,2,5,8,10,19,21] [(19,.v (.int .i64 0)),(21,.v (.int .i64 (-1)))] 97 [.int .i64 0,.int .i64 (-1)] (some 22) rfl (xc_s fun ww hf => l1Max_c 0 (-1) ww ) ?_
 intro _
 refine kOD 1 [1,2,5,8,10,19,23] [(23,.v (.int .u64 (IntKind.u64.wrap (max 0 (-1)))))] (.int .i64 (IntKind.i64.wrap (0 * 2 ^ (IntKind.u64.wrap (max 0 (-1))).toNat))) rfl (fun _ _ _ ww hr => act_bin hr.1 rfl (by kernel_rfl) (by kernel_rfl) (shl_run (k' := .u64) (by have e : ((IntKind.i64.bits : Nat) : Int) = 64 := rfl; (try rw [u64_id (by omega) (by omega)]); omega) (by have e : ((IntKind.i64.bits : Nat) : Int) = 64 := rfl; (try rw [u64_id (by omega) (by omega)]); omega) ww)) ?_
 refine kRS 1 [1,2,5,8,10,11] [(1,.v (.int .i64 iss)),(2,.v (.int .i64 irs)),(5,.p 0 0),(8,.p 1 0),(10,.p 2 0),(11,.v (.int .i64 (IntKind.i64.wrap (0 * 2 ^ (IntKind.u64.wrap (max 0 (-1))).toNat))))] ?_
 refine xl_eqS (t' := [(1,.v (.int .i64 iss)),(2,.v (.int .i64 irs)),(5,.p 0 0),(8,.p 1 0),(10,.p 2 0),(11,.v (.int .i64 (0 * 2 ^ (max 0 (-1) : Int).toNat)))]) (by rw [show (IntKind.u64.wrap (max 0 (-1))) = (max 0 (-1) : Int) from u64_id (by omega) (by omega),show (IntKind.i64.wrap (0 * 2 ^ (max 0 (-1) : Int).toNat)) = (0 * 2 ^ (max 0 (-1) : Int).toNat) from far_wrap (by omega) (by omega) (by omega) (by omega)]) ?_
 refine kED [1,2,5,8,10,11] [] ?_
 refine kS ?_
 refine xe_region [true,true,false] (by kernel_rfl) (fun ρ σ => ?_)
 refine kTS [0,1,4,7,8,9] [34,33,32,29,26,25,10] 6 [(34,.v (.agg #[.int .i64 0,.int .i64 (-1),.bool false,.bool false,.int .i64 0,.int .i64 0])),(33,.v (.int .i64 (0 * 2 ^ (max 0 (-1) : Int).toNat))),(32,.v (.int .i64 (0 * 2 ^ (max 0 (-1) : Int).toNat))),(29,.v (.int .i64 irs)),(26,.v (.int .i64 iss)),(25,.v (.agg (tupL t).toArray)),(10,.p 2 0)] ?_
 refine kA [2] ?_
 refine kSC 2 60 [.int .i64 iss,.int .i64 1] (some 27) rfl (xc_s fun ww hf => sSeqAdd_c iss 1 ww ) ?_
 intro _
 refine kX 3 (.agg #[.int .i64 (seqAdd iss 1),.string (⟨#[]⟩ : ByteArray),.int .i64 0,.bool false,.bool false,.bool false]) rfl (fun _ _ ww hA => act_build [(0,.int .i64 (seqAdd iss 1))] hA rfl (by kernel_rfl) (by kernel_rfl) ww) ?_
 refine kA [5] ?_
 refine kSC 5 60 [.int .i64 irs,.int .i64 1] (some 30) rfl (xc_s fun ww hf => sSeqAdd_c irs 1 ww ) ?_
 intro _
 refine kA [6] ?_
 refine kSC 6 135 [.int .i64 (seqAdd irs 1)] (some 31) rfl (xc_r fun ww hw hf => ysReceiverNew_c (seqAdd irs 1) ww   w.heap.size hw) ?_
 rintro ⟨v3a,v3c⟩
 refine kX 10 (.agg #[.int .i64 t.ip,.int .i64 t.port,.int .i64 t.my,.int .i64 1,.int .i64 (seqAdd iss 1),.string (⟨#[]⟩ : ByteArray),.int .i64 0,.bool false,.bool false,.bool false,.int .i64 ((receiverNew (seqAdd irs 1)).next),.string ((receiverNew (seqAdd irs 1)).data),.slice v3a ((receiverNew (seqAdd irs 1)).held.length) v3c,.int .i64 ((receiverNew (seqAdd irs 1)).fin),.bool ((receiverNew (seqAdd irs 1)).done),.int .i64 (0 * 2 ^ (max 0 (-1) : Int).toNat),.int .i64 (0 * 2 ^ (max 0 (-1) : Int).toNat),.int .i64 0,.int .i64 (-1),.bool false,.bool false,.int .i64 0,.int .i64 0,.int .i64 0,.int .i64 0]) rfl (fun _ _ ww hA => act_build [(0,.agg (tupL t).toArray),(1,.int .i64 1),(2,.agg #[.int .i64 (seqAdd iss 1),.string (⟨#[]⟩ : ByteArray),.int .i64 0,.bool false,.bool false,.bool false]),(3,.agg (rcvL (receiverNew (seqAdd irs 1)) (.slice v3a ((receiverNew (seqAdd irs 1)).held.length) v3c)).toArray),(4,.int .i64 (0 * 2 ^ (max 0 (-1) : Int).toNat)),(5,.int .i64 (0 * 2 ^ (max 0 (-1) : Int).toNat)),(6,.agg #[.int .i64 0,.int .i64 (-1),.bool false,.bool false,.int .i64 0,.int .i64 0])] hA rfl (by kernel_rfl) (by kernel_rfl) ww) ?_
 refine kA [11] ?_
 refine kSS 11 2 0 [.int .i64 t.ip,.int .i64 t.port,.int .i64 t.my,.int .i64 1,.int .i64 (seqAdd iss 1),.string (⟨#[]⟩ : ByteArray),.int .i64 0,.bool false,.bool false,.bool false,.int .i64 ((receiverNew (seqAdd irs 1)).next),.string ((receiverNew (seqAdd irs 1)).data),.slice v3a ((receiverNew (seqAdd irs 1)).held.length) v3c,.int .i64 ((receiverNew (seqAdd irs 1)).fin),.bool ((receiverNew (seqAdd irs 1)).done),.int .i64 (0 * 2 ^ (max 0 (-1) : Int).toNat),.int .i64 (0 * 2 ^ (max 0 (-1) : Int).toNat),.int .i64 0,.int .i64 (-1),.bool false,.bool false,.int .i64 0,.int .i64 0,.int .i64 0,.int .i64 0] rfl ?_
 refine kZ ?_
 refine kR ?_
 have hmod : connNew t iss irs o window = (⟨t,1,⟨seqAdd iss 1,(⟨#[]⟩ : ByteArray),0,false,false,false⟩,(receiverNew (seqAdd irs 1)),0 * 2 ^ (max 0 (-1) : Int).toNat,0 * 2 ^ (max 0 (-1) : Int).toNat,⟨0,(-1),false,false,0,0⟩,0,0⟩) := by first | rfl | (simp [connNew,farW,receiverNew, *]; done) | grind [connNew,farW,receiverNew]
 exact ⟨[.agg #[.int .i64 t.ip,.int .i64 t.port,.int .i64 t.my,.int .i64 1,.int .i64 (seqAdd iss 1),.string (⟨#[]⟩ : ByteArray),.int .i64 0,.bool false,.bool false,.bool false,.int .i64 ((receiverNew (seqAdd irs 1)).next),.string ((receiverNew (seqAdd irs 1)).data),.slice v3a ((receiverNew (seqAdd irs 1)).held.length) v3c,.int .i64 ((receiverNew (seqAdd irs 1)).fin),.bool ((receiverNew (seqAdd irs 1)).done),.int .i64 (0 * 2 ^ (max 0 (-1) : Int).toNat),.int .i64 (0 * 2 ^ (max 0 (-1) : Int).toNat),.int .i64 0,.int .i64 (-1),.bool false,.bool false,.int .i64 0,.int .i64 0,.int .i64 0,.int .i64 0]],by kernel_rfl,fun w' hb hf ha => by rw [hmod]; exact xo1 ((v3a,v3c)) rfl rfl (pR (hf _ m0) hB) hb⟩
 have h2n := not_f h2
 have h2nw := wordOk16_bd (by simpa using h2n)
 obtain ⟨h2nw0,h2nw1⟩ := h2nw
 refine kK ?_
 refine kQ ?_
 refine kCD 3 [1,2,5,8,10,19,21] [(19,.v (.int .i64 window)),(21,.v (.int .i64 (-1)))] 97 [.int .i64 0,.int .i64 (-1)] (some 22) rfl (xc_s fun ww hf => l1Max_c 0 (-1) ww ) ?_
 intro _
 refine kOD 1 [1,2,5,8,10,19,23] [(23,.v (.int .u64 (IntKind.u64.wrap (max 0 (-1)))))] (.int .i64 (IntKind.i64.wrap (window * 2 ^ (IntKind.u64.wrap (max 0 (-1))).toNat))) rfl (fun _ _ _ ww hr => act_bin hr.1 rfl (by kernel_rfl) (by kernel_rfl) (shl_run (k' := .u64) (by have e : ((IntKind.i64.bits : Nat) : Int) = 64 := rfl; (try rw [u64_id (by omega) (by omega)]); omega) (by have e : ((IntKind.i64.bits : Nat) : Int) = 64 := rfl; (try rw [u64_id (by omega) (by omega)]); omega) ww)) ?_
 refine kRS 1 [1,2,5,8,10,11] [(1,.v (.int .i64 iss)),(2,.v (.int .i64 irs)),(5,.p 0 0),(8,.p 1 0),(10,.p 2 0),(11,.v (.int .i64 (IntKind.i64.wrap (window * 2 ^ (IntKind.u64.wrap (max 0 (-1))).toNat))))] ?_
 refine xl_eqS (t' := [(1,.v (.int .i64 iss)),(2,.v (.int .i64 irs)),(5,.p 0 0),(8,.p 1 0),(10,.p 2 0),(11,.v (.int .i64 (window * 2 ^ (max 0 (-1) : Int).toNat)))]) (by rw [show (IntKind.u64.wrap (max 0 (-1))) = (max 0 (-1) : Int) from u64_id (by omega) (by omega),show (IntKind.i64.wrap (window * 2 ^ (max 0 (-1) : Int).toNat)) = (window * 2 ^ (max 0 (-1) : Int).toNat) from far_wrap (by omega) (by omega) (by omega) (by omega)]) ?_
 refine kED [1,2,5,8,10,11] [] ?_
 refine kS ?_
 refine xe_region [true,true,false] (by kernel_rfl) (fun ρ σ => ?_)
 refine kTS [0,1,4,7,8,9] [34,33,32,29,26,25,10] 6 [(34,.v (.agg #[.int .i64 0,.int .i64 (-1),.bool false,.bool false,.int .i64 0,.int .i64 0])),(33,.v (.int .i64 (window * 2 ^ (max 0 (-1) : Int).toNat))),(32,.v (.int .i64 (window * 2 ^ (max 0 (-1) : Int).toNat))),(29,.v (.int .i64 irs)),(26,.v (.int .i64 iss)),(25,.v (.agg (tupL t).toArray)),(10,.p 2 0)] ?_
 refine kA [2] ?_
 refine kSC 2 60 [.int .i64 iss,.int .i64 1] (some 27) rfl (xc_s fun ww hf => sSeqAdd_c iss 1 ww ) ?_
 intro _
 refine kX 3 (.agg #[.int .i64 (seqAdd iss 1),.string (⟨#[]⟩ : ByteArray),.int .i64 0,.bool false,.bool false,.bool false]) rfl (fun _ _ ww hA => act_build [(0,.int .i64 (seqAdd iss 1))] hA rfl (by kernel_rfl) (by kernel_rfl) ww) ?_
 refine kA [5] ?_
 refine kSC 5 60 [.int .i64 irs,.int .i64 1] (some 30) rfl (xc_s fun ww hf => sSeqAdd_c irs 1 ww ) ?_
 intro _
 refine kA [6] ?_
 refine kSC 6 135 [.int .i64 (seqAdd irs 1)] (some 31) rfl (xc_r fun ww hw hf => ysReceiverNew_c (seqAdd irs 1) ww   w.heap.size hw) ?_
 rintro ⟨v4a,v4c⟩
 refine kX 10 (.agg #[.int .i64 t.ip,.int .i64 t.port,.int .i64 t.my,.int .i64 1,.int .i64 (seqAdd iss 1),.string (⟨#[]⟩ : ByteArray),.int .i64 0,.bool false,.bool false,.bool false,.int .i64 ((receiverNew (seqAdd irs 1)).next),.string ((receiverNew (seqAdd irs 1)).data),.slice v4a ((receiverNew (seqAdd irs 1)).held.length) v4c,.int .i64 ((receiverNew (seqAdd irs 1)).fin),.bool ((receiverNew (seqAdd irs 1)).done),.int .i64 (window * 2 ^ (max 0 (-1) : Int).toNat),.int .i64 (window * 2 ^ (max 0 (-1) : Int).toNat),.int .i64 0,.int .i64 (-1),.bool false,.bool false,.int .i64 0,.int .i64 0,.int .i64 0,.int .i64 0]) rfl (fun _ _ ww hA => act_build [(0,.agg (tupL t).toArray),(1,.int .i64 1),(2,.agg #[.int .i64 (seqAdd iss 1),.string (⟨#[]⟩ : ByteArray),.int .i64 0,.bool false,.bool false,.bool false]),(3,.agg (rcvL (receiverNew (seqAdd irs 1)) (.slice v4a ((receiverNew (seqAdd irs 1)).held.length) v4c)).toArray),(4,.int .i64 (window * 2 ^ (max 0 (-1) : Int).toNat)),(5,.int .i64 (window * 2 ^ (max 0 (-1) : Int).toNat)),(6,.agg #[.int .i64 0,.int .i64 (-1),.bool false,.bool false,.int .i64 0,.int .i64 0])] hA rfl (by kernel_rfl) (by kernel_rfl) ww) ?_
 refine kA [11] ?_
 refine kSS 11 2 0 [.int .i64 t.ip,.int .i64 t.port,.int .i64 t.my,.int .i64 1,.int .i64 (seqAdd iss 1),.string (⟨#[]⟩ : ByteArray),.int .i64 0,.bool false,.bool false,.bool false,.int .i64 ((receiverNew (seqAdd irs 1)).next),.string ((receiverNew (seqAdd irs 1)).data),.slice v4a ((receiverNew (seqAdd irs 1)).held.length) v4c,.int .i64 ((receiverNew (seqAdd irs 1)).fin),.bool ((receiverNew (seqAdd irs 1)).done),.int .i64 (window * 2 ^ (max 0 (-1) : Int).toNat),.int .i64 (window * 2 ^ (max 0 (-1) : Int).toNat),.int .i64 0,.int .i64 (-1),.bool false,.bool false,.int .i64 0,.int .i64 0,.int .i64 0,.int .i64 0] rfl ?_
 refine kZ ?_
 refine kR ?_
 have hmod : connNew t iss irs o window = (⟨t,1,⟨seqAdd iss 1,(⟨#[]⟩ : ByteArray),0,false,false,false⟩,(receiverNew (seqAdd irs 1)),window * 2 ^ (max 0 (-1) : Int).toNat,window * 2 ^ (max 0 (-1) : Int).toNat,⟨0,(-1),false,false,0,0⟩,0,0⟩) := by first | rfl | (simp [connNew,farW,receiverNew, *]; done) | grind [connNew,farW,receiverNew]
 exact ⟨[.agg #[.int .i64 t.ip,.int .i64 t.port,.int .i64 t.my,.int .i64 1,.int .i64 (seqAdd iss 1),.string (⟨#[]⟩ : ByteArray),.int .i64 0,.bool false,.bool false,.bool false,.int .i64 ((receiverNew (seqAdd irs 1)).next),.string ((receiverNew (seqAdd irs 1)).data),.slice v4a ((receiverNew (seqAdd irs 1)).held.length) v4c,.int .i64 ((receiverNew (seqAdd irs 1)).fin),.bool ((receiverNew (seqAdd irs 1)).done),.int .i64 (window * 2 ^ (max 0 (-1) : Int).toNat),.int .i64 (window * 2 ^ (max 0 (-1) : Int).toNat),.int .i64 0,.int .i64 (-1),.bool false,.bool false,.int .i64 0,.int .i64 0,.int .i64 0,.int .i64 0]],by kernel_rfl,fun w' hb hf ha => by rw [hmod]; exact xo1 ((v4a,v4c)) rfl rfl (pR (hf _ m0) hB) hb⟩
 have h1n := not_f h1
 have h1nw := optionsOk_bd (by simpa using h1n)
 obtain ⟨h1nw0,h1nw1⟩ := h1nw
 refine kK ?_
 refine kS ?_
 refine kQ ?_
 refine kCD 1 [1,2,4,5,8,10,16] [(16,.v (.int .i64 window))] 94 [.int .i64 window,.int .i64 16] (some 17) rfl (xc_s fun ww hf => sWordOk16_c window ww) ?_
 intro _
 refine kED [1,2,4,5,8,10,18] [(18,.v (.bool (!(wordOk window 16))))] ?_
 refine kC (!(wordOk window 16)) (fun h5 => ?_) (fun h5 => ?_)
 have h5n := not_t h5
 refine kG ?_
 refine kED [1,2,4,5,8,10] [(4,.v (.int .i64 0))] ?_
 refine kQ ?_
 refine kCD 3 [1,2,5,8,10,19,21] [(19,.v (.int .i64 0)),(21,.v (.int .i64 o.scale))] 97 [.int .i64 0,.int .i64 o.scale] (some 22) rfl (xc_s fun ww hf => l1Max_c 0 o.scale ww ) ?_
 intro _
 refine kOD 1 [1,2,5,8,10,19,23] [(23,.v (.int .u64 (IntKind.u64.wrap (max 0 o.scale))))] (.int .i64 (IntKind.i64.wrap (0 * 2 ^ (IntKind.u64.wrap (max 0 o.scale)).toNat))) rfl (fun _ _ _ ww hr => act_bin hr.1 rfl (by kernel_rfl) (by kernel_rfl) (shl_run (k' := .u64) (by have e : ((IntKind.i64.bits : Nat) : Int) = 64 := rfl; (try rw [u64_id (by omega) (by omega)]); omega) (by have e : ((IntKind.i64.bits : Nat) : Int) = 64 := rfl; (try rw [u64_id (by omega) (by omega)]); omega) ww)) ?_
 refine kRS 1 [1,2,5,8,10,11] [(1,.v (.int .i64 iss)),(2,.v (.int .i64 irs)),(5,.p 0 0),(8,.p 1 0),(10,.p 2 0),(11,.v (.int .i64 (IntKind.i64.wrap (0 * 2 ^ (IntKind.u64.wrap (max 0 o.scale)).toNat))))] ?_
 refine xl_eqS (t' := [(1,.v (.int .i64 iss)),(2,.v (.int .i64 irs)),(5,.p 0 0),(8,.p 1 0),(10,.p 2 0),(11,.v (.int .i64 (0 * 2 ^ (max 0 o.scale).toNat)))]) (by rw [show (IntKind.u64.wrap (max 0 o.scale)) = (max 0 o.scale) from u64_id (by omega) (by omega),show (IntKind.i64.wrap (0 * 2 ^ (max 0 o.scale).toNat)) = (0 * 2 ^ (max 0 o.scale).toNat) from far_wrap (by omega) (by omega) (by omega) (by omega)]) ?_
 refine kED [1,2,5,8,10,11] [] ?_
 refine kS ?_
 refine xe_region [true,true,false] (by kernel_rfl) (fun ρ σ => ?_)
 refine kTS [0,1,4,7,8,9] [34,33,32,29,26,25,10] 6 [(34,.v (.agg (optL o).toArray)),(33,.v (.int .i64 (0 * 2 ^ (max 0 o.scale).toNat))),(32,.v (.int .i64 (0 * 2 ^ (max 0 o.scale).toNat))),(29,.v (.int .i64 irs)),(26,.v (.int .i64 iss)),(25,.v (.agg (tupL t).toArray)),(10,.p 2 0)] ?_
 refine kA [2] ?_
 refine kSC 2 60 [.int .i64 iss,.int .i64 1] (some 27) rfl (xc_s fun ww hf => sSeqAdd_c iss 1 ww ) ?_
 intro _
 refine kX 3 (.agg #[.int .i64 (seqAdd iss 1),.string (⟨#[]⟩ : ByteArray),.int .i64 0,.bool false,.bool false,.bool false]) rfl (fun _ _ ww hA => act_build [(0,.int .i64 (seqAdd iss 1))] hA rfl (by kernel_rfl) (by kernel_rfl) ww) ?_
 refine kA [5] ?_
 refine kSC 5 60 [.int .i64 irs,.int .i64 1] (some 30) rfl (xc_s fun ww hf => sSeqAdd_c irs 1 ww ) ?_
 intro _
 refine kA [6] ?_
 refine kSC 6 135 [.int .i64 (seqAdd irs 1)] (some 31) rfl (xc_r fun ww hw hf => ysReceiverNew_c (seqAdd irs 1) ww   w.heap.size hw) ?_
 rintro ⟨v6a,v6c⟩
 refine kX 10 (.agg #[.int .i64 t.ip,.int .i64 t.port,.int .i64 t.my,.int .i64 1,.int .i64 (seqAdd iss 1),.string (⟨#[]⟩ : ByteArray),.int .i64 0,.bool false,.bool false,.bool false,.int .i64 ((receiverNew (seqAdd irs 1)).next),.string ((receiverNew (seqAdd irs 1)).data),.slice v6a ((receiverNew (seqAdd irs 1)).held.length) v6c,.int .i64 ((receiverNew (seqAdd irs 1)).fin),.bool ((receiverNew (seqAdd irs 1)).done),.int .i64 (0 * 2 ^ (max 0 o.scale).toNat),.int .i64 (0 * 2 ^ (max 0 o.scale).toNat),.int .i64 o.mss,.int .i64 o.scale,.bool o.sack,.bool o.stamp,.int .i64 o.val,.int .i64 o.echo,.int .i64 0,.int .i64 0]) rfl (fun _ _ ww hA => act_build [(0,.agg (tupL t).toArray),(1,.int .i64 1),(2,.agg #[.int .i64 (seqAdd iss 1),.string (⟨#[]⟩ : ByteArray),.int .i64 0,.bool false,.bool false,.bool false]),(3,.agg (rcvL (receiverNew (seqAdd irs 1)) (.slice v6a ((receiverNew (seqAdd irs 1)).held.length) v6c)).toArray),(4,.int .i64 (0 * 2 ^ (max 0 o.scale).toNat)),(5,.int .i64 (0 * 2 ^ (max 0 o.scale).toNat)),(6,.agg (optL o).toArray)] hA rfl (by kernel_rfl) (by kernel_rfl) ww) ?_
 refine kA [11] ?_
 refine kSS 11 2 0 [.int .i64 t.ip,.int .i64 t.port,.int .i64 t.my,.int .i64 1,.int .i64 (seqAdd iss 1),.string (⟨#[]⟩ : ByteArray),.int .i64 0,.bool false,.bool false,.bool false,.int .i64 ((receiverNew (seqAdd irs 1)).next),.string ((receiverNew (seqAdd irs 1)).data),.slice v6a ((receiverNew (seqAdd irs 1)).held.length) v6c,.int .i64 ((receiverNew (seqAdd irs 1)).fin),.bool ((receiverNew (seqAdd irs 1)).done),.int .i64 (0 * 2 ^ (max 0 o.scale).toNat),.int .i64 (0 * 2 ^ (max 0 o.scale).toNat),.int .i64 o.mss,.int .i64 o.scale,.bool o.sack,.bool o.stamp,.int .i64 o.val,.int .i64 o.echo,.int .i64 0,.int .i64 0] rfl ?_
 refine kZ ?_
 refine kR ?_
 have hmod : connNew t iss irs o window = (⟨t,1,⟨seqAdd iss 1,(⟨#[]⟩ : ByteArray),0,false,false,false⟩,(receiverNew (seqAdd irs 1)),0 * 2 ^ (max 0 o.scale).toNat,0 * 2 ^ (max 0 o.scale).toNat,o,0,0⟩) := by first | rfl | (simp [connNew,farW,receiverNew, *]; done) | grind [connNew,farW,receiverNew]
 exact ⟨[.agg #[.int .i64 t.ip,.int .i64 t.port,.int .i64 t.my,.int .i64 1,.int .i64 (seqAdd iss 1),.string (⟨#[]⟩ : ByteArray),.int .i64 0,.bool false,.bool false,.bool false,.int .i64 ((receiverNew (seqAdd irs 1)).next),.string ((receiverNew (seqAdd irs 1)).data),.slice v6a ((receiverNew (seqAdd irs 1)).held.length) v6c,.int .i64 ((receiverNew (seqAdd irs 1)).fin),.bool ((receiverNew (seqAdd irs 1)).done),.int .i64 (0 * 2 ^ (max 0 o.scale).toNat),.int .i64 (0 * 2 ^ (max 0 o.scale).toNat),.int .i64 o.mss,.int .i64 o.scale,.bool o.sack,.bool o.stamp,.int .i64 o.val,.int .i64 o.echo,.int .i64 0,.int .i64 0]],by kernel_rfl,fun w' hb hf ha => by rw [hmod]; exact xo1 ((v6a,v6c)) rfl rfl (pR (hf _ m0) hB) hb⟩
 have h5n := not_f h5
 have h5nw := wordOk16_bd (by simpa using h5n)
 obtain ⟨h5nw0,h5nw1⟩ := h5nw
 refine kK ?_
 refine kQ ?_
 refine kCD 3 [1,2,5,8,10,19,21] [(19,.v (.int .i64 window)),(21,.v (.int .i64 o.scale))] 97 [.int .i64 0,.int .i64 o.scale] (some 22) rfl (xc_s fun ww hf => l1Max_c 0 o.scale ww ) ?_
 intro _
 refine kOD 1 [1,2,5,8,10,19,23] [(23,.v (.int .u64 (IntKind.u64.wrap (max 0 o.scale))))] (.int .i64 (IntKind.i64.wrap (window * 2 ^ (IntKind.u64.wrap (max 0 o.scale)).toNat))) rfl (fun _ _ _ ww hr => act_bin hr.1 rfl (by kernel_rfl) (by kernel_rfl) (shl_run (k' := .u64) (by have e : ((IntKind.i64.bits : Nat) : Int) = 64 := rfl; (try rw [u64_id (by omega) (by omega)]); omega) (by have e : ((IntKind.i64.bits : Nat) : Int) = 64 := rfl; (try rw [u64_id (by omega) (by omega)]); omega) ww)) ?_
 refine kRS 1 [1,2,5,8,10,11] [(1,.v (.int .i64 iss)),(2,.v (.int .i64 irs)),(5,.p 0 0),(8,.p 1 0),(10,.p 2 0),(11,.v (.int .i64 (IntKind.i64.wrap (window * 2 ^ (IntKind.u64.wrap (max 0 o.scale)).toNat))))] ?_
 refine xl_eqS (t' := [(1,.v (.int .i64 iss)),(2,.v (.int .i64 irs)),(5,.p 0 0),(8,.p 1 0),(10,.p 2 0),(11,.v (.int .i64 (window * 2 ^ (max 0 o.scale).toNat)))]) (by rw [show (IntKind.u64.wrap (max 0 o.scale)) = (max 0 o.scale) from u64_id (by omega) (by omega),show (IntKind.i64.wrap (window * 2 ^ (max 0 o.scale).toNat)) = (window * 2 ^ (max 0 o.scale).toNat) from far_wrap (by omega) (by omega) (by omega) (by omega)]) ?_
 refine kED [1,2,5,8,10,11] [] ?_
 refine kS ?_
 refine xe_region [true,true,false] (by kernel_rfl) (fun ρ σ => ?_)
 refine kTS [0,1,4,7,8,9] [34,33,32,29,26,25,10] 6 [(34,.v (.agg (optL o).toArray)),(33,.v (.int .i64 (window * 2 ^ (max 0 o.scale).toNat))),(32,.v (.int .i64 (window * 2 ^ (max 0 o.scale).toNat))),(29,.v (.int .i64 irs)),(26,.v (.int .i64 iss)),(25,.v (.agg (tupL t).toArray)),(10,.p 2 0)] ?_
 refine kA [2] ?_
 refine kSC 2 60 [.int .i64 iss,.int .i64 1] (some 27) rfl (xc_s fun ww hf => sSeqAdd_c iss 1 ww ) ?_
 intro _
 refine kX 3 (.agg #[.int .i64 (seqAdd iss 1),.string (⟨#[]⟩ : ByteArray),.int .i64 0,.bool false,.bool false,.bool false]) rfl (fun _ _ ww hA => act_build [(0,.int .i64 (seqAdd iss 1))] hA rfl (by kernel_rfl) (by kernel_rfl) ww) ?_
 refine kA [5] ?_
 refine kSC 5 60 [.int .i64 irs,.int .i64 1] (some 30) rfl (xc_s fun ww hf => sSeqAdd_c irs 1 ww ) ?_
 intro _
 refine kA [6] ?_
 refine kSC 6 135 [.int .i64 (seqAdd irs 1)] (some 31) rfl (xc_r fun ww hw hf => ysReceiverNew_c (seqAdd irs 1) ww   w.heap.size hw) ?_
 rintro ⟨v7a,v7c⟩
 refine kX 10 (.agg #[.int .i64 t.ip,.int .i64 t.port,.int .i64 t.my,.int .i64 1,.int .i64 (seqAdd iss 1),.string (⟨#[]⟩ : ByteArray),.int .i64 0,.bool false,.bool false,.bool false,.int .i64 ((receiverNew (seqAdd irs 1)).next),.string ((receiverNew (seqAdd irs 1)).data),.slice v7a ((receiverNew (seqAdd irs 1)).held.length) v7c,.int .i64 ((receiverNew (seqAdd irs 1)).fin),.bool ((receiverNew (seqAdd irs 1)).done),.int .i64 (window * 2 ^ (max 0 o.scale).toNat),.int .i64 (window * 2 ^ (max 0 o.scale).toNat),.int .i64 o.mss,.int .i64 o.scale,.bool o.sack,.bool o.stamp,.int .i64 o.val,.int .i64 o.echo,.int .i64 0,.int .i64 0]) rfl (fun _ _ ww hA => act_build [(0,.agg (tupL t).toArray),(1,.int .i64 1),(2,.agg #[.int .i64 (seqAdd iss 1),.string (⟨#[]⟩ : ByteArray),.int .i64 0,.bool false,.bool false,.bool false]),(3,.agg (rcvL (receiverNew (seqAdd irs 1)) (.slice v7a ((receiverNew (seqAdd irs 1)).held.length) v7c)).toArray),(4,.int .i64 (window * 2 ^ (max 0 o.scale).toNat)),(5,.int .i64 (window * 2 ^ (max 0 o.scale).toNat)),(6,.agg (optL o).toArray)] hA rfl (by kernel_rfl) (by kernel_rfl) ww) ?_
 refine kA [11] ?_
 refine kSS 11 2 0 [.int .i64 t.ip,.int .i64 t.port,.int .i64 t.my,.int .i64 1,.int .i64 (seqAdd iss 1),.string (⟨#[]⟩ : ByteArray),.int .i64 0,.bool false,.bool false,.bool false,.int .i64 ((receiverNew (seqAdd irs 1)).next),.string ((receiverNew (seqAdd irs 1)).data),.slice v7a ((receiverNew (seqAdd irs 1)).held.length) v7c,.int .i64 ((receiverNew (seqAdd irs 1)).fin),.bool ((receiverNew (seqAdd irs 1)).done),.int .i64 (window * 2 ^ (max 0 o.scale).toNat),.int .i64 (window * 2 ^ (max 0 o.scale).toNat),.int .i64 o.mss,.int .i64 o.scale,.bool o.sack,.bool o.stamp,.int .i64 o.val,.int .i64 o.echo,.int .i64 0,.int .i64 0] rfl ?_
 refine kZ ?_
 refine kR ?_
 have hmod : connNew t iss irs o window = (⟨t,1,⟨seqAdd iss 1,(⟨#[]⟩ : ByteArray),0,false,false,false⟩,(receiverNew (seqAdd irs 1)),window * 2 ^ (max 0 o.scale).toNat,window * 2 ^ (max 0 o.scale).toNat,o,0,0⟩) := by first | rfl | (simp [connNew,farW,receiverNew, *]; done) | grind [connNew,farW,receiverNew]
 exact ⟨[.agg #[.int .i64 t.ip,.int .i64 t.port,.int .i64 t.my,.int .i64 1,.int .i64 (seqAdd iss 1),.string (⟨#[]⟩ : ByteArray),.int .i64 0,.bool false,.bool false,.bool false,.int .i64 ((receiverNew (seqAdd irs 1)).next),.string ((receiverNew (seqAdd irs 1)).data),.slice v7a ((receiverNew (seqAdd irs 1)).held.length) v7c,.int .i64 ((receiverNew (seqAdd irs 1)).fin),.bool ((receiverNew (seqAdd irs 1)).done),.int .i64 (window * 2 ^ (max 0 o.scale).toNat),.int .i64 (window * 2 ^ (max 0 o.scale).toNat),.int .i64 o.mss,.int .i64 o.scale,.bool o.sack,.bool o.stamp,.int .i64 o.val,.int .i64 o.echo,.int .i64 0,.int .i64 0]],by kernel_rfl,fun w' hb hf ha => by rw [hmod]; exact xo1 ((v7a,v7c)) rfl rfl (pR (hf _ m0) hB) hb⟩
theorem ysHeard_c (c : Con) (c_r_heldV : Value) (g : Seg) (w : World) (hl_c_r_heldV : Sl w c_r_heldV 2 (c.r.held.map pceCells)) (hkn : c.r.held.length ≤ 1048576)(hgz : g.body.size ≤ 1048576) (hm : ∀ p ∈ c.r.held, p.text.size ≤ 1048576) (hsz : c.r.data.size ≤ 4611686018427387904) (B : Nat) (hB : B ≤ w.heap.size) : Calls Tryz.prog 137 #[.agg (conL c c_r_heldV).toArray, .agg (segL g).toArray] w fun e w' => XRs w w' e (α := Option Addr × Nat) (fun y => .agg (conL (heard c g) (.slice y.1 ((heard c g).r.held.length) y.2)).toArray) (fun y => [ownF B (.slice y.1 ((heard c g).r.held.length) y.2) 2 ((heard c g).r.held.map pceCells)]) := by
 obtain ⟨Acrh,Ccrh,hvcrh⟩ := hl_c_r_heldV.form
 rw [List.length_map] at hvcrh; subst hvcrh
 have hncrh := hl_c_r_heldV.len; rw [List.length_map] at hncrh
 have hqcrh := Sl.capLe hl_c_r_heldV
 refine x_callsA (args := [.agg (conL c (.slice Acrh c.r.held.length Ccrh)).toArray,.agg (segL g).toArray]) (fn := Tryz.f137) [slF (.slice Acrh c.r.held.length Ccrh) 2 (c.r.held.map pceCells)] Tryz.func137 rfl Tryz.ntmps137 rfl (by simp only [List.mem_cons,List.not_mem_nil,or_false,forall_eq_or_imp,forall_eq]; exact ⟨rfl,hl_c_r_heldV⟩) ?_
 refine kQ ?_
 refine kEF [2,3,4] ⟨[(2,.p 0 0),(3,.p 1 0),(4,.p 2 0)],[⟨34,conL c (.slice Acrh c.r.held.length Ccrh)⟩,⟨36,segL g⟩,⟨34,conZ⟩],[],[slF (.slice Acrh c.r.held.length Ccrh) 2 (c.r.held.map pceCells)]⟩ ?_
 refine kQ ?_
 refine kCD 1 [2,3,4,9] [(9,.v (.agg (conL c (.slice Acrh c.r.held.length Ccrh)).toArray))] 70 [.agg (conL c (.slice Acrh c.r.held.length Ccrh)).toArray] (some 10) rfl (xc_r fun ww hw hf => yl19Copy_c c (.slice Acrh c.r.held.length Ccrh) ww (hf _ m0) (by assumption) w.heap.size hw) ?_
 rintro ⟨v1a,v1c⟩
 refine kEA [2,3,4,5] [(5,.p 3 0)] [⟨34,conL c (.slice v1a c.r.held.length v1c)⟩] ?_
 refine kS ?_
 refine kQ ?_
 refine kCD 2 [2,3,4,5,11,12] [(11,.v (.agg (conL c (.slice Acrh c.r.held.length Ccrh)).toArray)),(12,.v (.agg (segL g).toArray))] 13 [.agg (conL c (.slice Acrh c.r.held.length Ccrh)).toArray,.agg (segL g).toArray] (some 13) rfl (xc_b fun ww hf => ysVerdict_c c (.slice Acrh c.r.held.length Ccrh) g ww (hf _ m1) (by omega) (by assumption) (by omega)) ?_
 intro _
 refine kED [2,3,4,5,14] [(14,.v (.bool ((verdict c g) != 5)))] ?_
 refine kC ((verdict c g) != 5) (fun h2 => ?_) (fun h2 => ?_)
 have h2p := neT h2
 have hv5 : ¬ verdict c g = 5 := by simpa using h2
 refine kQ ?_
 refine kEU [4] [(4,.p 2 0)] 2 ⟨34,conL c (.slice v1a c.r.held.length v1c)⟩ ?_
 refine kR ?_
 have hmod : heard c g = c := by first | (unfold heard; rw [if_pos hv5,← hm5]; unfold heardR; rw [if_pos (by assumption)]; done) | (unfold heard; rw [if_pos hv5,← hm5]; unfold heardR; rw [if_neg (by simp [*]; done),← hmr]; done) | (unfold heard; rw [if_neg hv5]; done)
 exact ⟨[.agg (conL c (.slice v1a c.r.held.length v1c)).toArray],by kernel_rfl,fun w' hb hf ha => by rw [hmod]; exact xo1 ((v1a,v1c)) rfl rfl (pO (hf _ m0) hB) hb⟩
 have h2p := neF h2
 have hv5 : verdict c g = 5 := by simpa using h2
 obtain ⟨hc1,hc2,hc3,-⟩ := verdict_fine hv5
 have hgw := segmentOk_w hc3
 have hsc := optionsOk_bd (conOk_r hc1).2.1
 have hfw := farW_bd hgw (conOk_r hc1).2.1
 refine kK ?_
 refine kQ ?_
 refine kCD 4 [2,3,4,5,18,20] [(18,.v (.agg (sndL c.s).toArray)),(20,.v (.int .i64 g.ack))] 138 [.agg (sndL c.s).toArray,.int .i64 g.ack] (some 21) rfl (xc_b fun ww hf => ysAcked_c c.s g.ack ww  ) ?_
 intro _
 refine kEA [2,3,4,5,6,7] [(6,.p 4 0),(7,.v (.bool ((acked c.s g.ack).2)))] [⟨27,sndL (acked c.s g.ack).1⟩] ?_
 refine kS ?_
 refine xw_joinF (α := {zz : Con // (fun (m : Con) => m = heardMid c g) zz}) (fun zz => (fun (m : Con) => (⟨[(2,.p 0 0),(3,.p 1 0),(4,.p 2 0),(5,.p 3 0)],[⟨34,conL c (.slice Acrh c.r.held.length Ccrh)⟩,⟨36,segL g⟩,⟨34,conZ⟩,⟨34,conL m (.slice v1a m.r.held.length v1c)⟩,⟨27,sndL (acked c.s g.ack).1⟩],[],[ownF w.heap.size (.slice v1a m.r.held.length v1c) 2 (m.r.held.map pceCells),slF (.slice Acrh c.r.held.length Ccrh) 2 (c.r.held.map pceCells)]⟩ : St)) zz.1) ?_ ?_
 refine kQ ?_
 refine kED [2,3,4,5,6,24] [(24,.v (.bool ((acked c.s g.ack).2)))] ?_
 refine kC ((acked c.s g.ack).2) (fun h3 => ?_) (fun h3 => ?_)
 refine kQ ?_
 refine kEU [2,3,4,5,6] [] 3 ⟨34,conL { c with s := (acked c.s g.ack).1 } (.slice v1a c.r.held.length v1c)⟩ ?_
 refine kS ?_
 refine xe_region0 [true,true,true,false,true] (by kernel_rfl) (fun ρ σ => ?_)
 refine kTS [0,1,2,3,4] [31,28,2,3,4,5,6] 6 [(31,.v (.int .i64 c.o.scale)),(28,.v (.int .i64 g.window)),(2,.p 0 0),(3,.p 1 0),(4,.p 2 0),(5,.p 3 0),(6,.p 4 0)] ?_
 refine kA [5] ?_
 refine kSC 5 97 [.int .i64 0,.int .i64 c.o.scale] (some 32) rfl (xc_s fun ww hf => l1Max_c 0 c.o.scale ww ) ?_
 intro _
 refine kTS [6] [33,28,2,3,4,5,6] 4 [(33,.v (.int .u64 (IntKind.u64.wrap (max 0 c.o.scale)))),(28,.v (.int .i64 g.window)),(2,.p 0 0),(3,.p 1 0),(4,.p 2 0),(5,.p 3 0),(6,.p 4 0)] ?_
 refine xe_eqS (t := [(33,.v (.int .u64 (IntKind.u64.wrap (max 0 c.o.scale)))),(28,.v (.int .i64 g.window)),(2,.p 0 0),(3,.p 1 0),(4,.p 2 0),(5,.p 3 0),(6,.p 4 0)]) (t' := [(33,.v (.int .u64 (max 0 c.o.scale))),(28,.v (.int .i64 g.window)),(2,.p 0 0),(3,.p 1 0),(4,.p 2 0),(5,.p 3 0),(6,.p 4 0)]) (by rw [show (IntKind.u64.wrap (max 0 c.o.scale)) = (max 0 c.o.scale) from u64_id (by omega) (by omega)]) ?_
 refine kX 7 (.int .i64 (IntKind.i64.wrap (g.window * 2 ^ (max 0 c.o.scale).toNat))) rfl (fun _ _ ww hA => act_bin hA rfl (by kernel_rfl) (by kernel_rfl) (shl_run (k' := .u64) (by have e : ((IntKind.i64.bits : Nat) : Int) = 64 := rfl; (try rw [u64_id (by omega) (by omega)]); omega) (by have e : ((IntKind.i64.bits : Nat) : Int) = 64 := rfl; (try rw [u64_id (by omega) (by omega)]); omega) ww)) ?_
 refine xe_eqS (t := [(34,.v (.int .i64 (IntKind.i64.wrap (g.window * 2 ^ (max 0 c.o.scale).toNat)))),(33,.v (.int .u64 (max 0 c.o.scale))),(28,.v (.int .i64 g.window)),(2,.p 0 0),(3,.p 1 0),(4,.p 2 0),(5,.p 3 0),(6,.p 4 0)]) (t' := [(34,.v (.int .i64 (farW g.window c.o))),(33,.v (.int .u64 (max 0 c.o.scale))),(28,.v (.int .i64 g.window)),(2,.p 0 0),(3,.p 1 0),(4,.p 2 0),(5,.p 3 0),(6,.p 4 0)]) (by rw [show (IntKind.i64.wrap (g.window * 2 ^ (max 0 c.o.scale).toNat)) = (farW g.window c.o) from (by unfold farW; exact far_wrap (by omega) (by omega) (by omega) (by omega))]) ?_
 refine kA [8] ?_
 refine kSC 8 116 [.int .i64 1073725440,.int .i64 (farW g.window c.o)] (some 35) rfl (xc_s fun ww hf => l1Min_c 1073725440 (farW g.window c.o) ww ) ?_
 intro _
 refine xe_eqS (t := [(35,.v (.int .i64 (min 1073725440 (farW g.window c.o)))),(34,.v (.int .i64 (farW g.window c.o))),(33,.v (.int .u64 (max 0 c.o.scale))),(28,.v (.int .i64 g.window)),(2,.p 0 0),(3,.p 1 0),(4,.p 2 0),(5,.p 3 0),(6,.p 4 0)]) (t' := [(35,.v (.int .i64 (farW g.window c.o))),(34,.v (.int .i64 (farW g.window c.o))),(33,.v (.int .u64 (max 0 c.o.scale))),(28,.v (.int .i64 g.window)),(2,.p 0 0),(3,.p 1 0),(4,.p 2 0),(5,.p 3 0),(6,.p 4 0)]) (by rw [show (min 1073725440 (farW g.window c.o)) = (farW g.window c.o) from (by omega)]) ?_
 refine kTS [9] [36,35,2,3,4,5,6] 1 [(36,.p 3 15),(35,.v (.int .i64 (farW g.window c.o))),(2,.p 0 0),(3,.p 1 0),(4,.p 2 0),(5,.p 3 0),(6,.p 4 0)] ?_
 refine kA [10] ?_
 refine kSS 10 3 15 [.int .i64 (farW g.window c.o)] rfl ?_
 refine kZ ?_
 refine kQ ?_
 refine kCD 4 [2,3,4,5,6,38,40] [(38,.v (.int .i64 c.most)),(40,.v (.int .i64 (farW g.window c.o)))] 97 [.int .i64 c.most,.int .i64 (farW g.window c.o)] (some 41) rfl (xc_s fun ww hf => l1Max_c c.most (farW g.window c.o) ww ) ?_
 intro _
 refine kEU [2,3,4,5,6] [] 3 ⟨34,conL { c with s := (acked c.s g.ack).1,window := farW g.window c.o,most := max c.most (farW g.window c.o) } (.slice v1a c.r.held.length v1c)⟩ ?_
 refine kQ ?_
 refine kCD 1 [2,3,4,5,6,43] [(43,.v (.agg (sndL (acked c.s g.ack).1).toArray))] 61 [.agg (sndL (acked c.s g.ack).1).toArray] (some 44) rfl (xc_b fun ww hf => sFlown_c ((acked c.s g.ack).1.una) ((acked c.s g.ack).1.data) ((acked c.s g.ack).1.sent) ((acked c.s g.ack).1.fin) ((acked c.s g.ack).1.finSent) ((acked c.s g.ack).1.done) ww ) ?_
 intro _
 refine kED [2,3,4,5,6,8] [(8,.v (.int .i64 (flown ((acked c.s g.ack).1))))] ?_
 refine kQ ?_
 refine kRD 7 [2,3,4,5,8,51] [(51,.v (.bool (((acked c.s g.ack).1.una) != c.s.una)))] ?_
 refine kP 51 (((acked c.s g.ack).1.una) != c.s.una) (fun h4 => ?_) (fun h4 => ?_)
 have h4p := neT h4
 refine kED [2,3,4,5,8,59] [(59,.v (.bool (c.state != 7)))] ?_
 refine kC (c.state != 7) (fun h5 => ?_) (fun h5 => ?_)
 have h5p := neT h5
 refine kQ ?_
 refine kEU [2,3,4,5,8] [] 3 ⟨34,conL { c with s := (acked c.s g.ack).1,window := farW g.window c.o,most := max c.most (farW g.window c.o),tries := 0 } (.slice v1a c.r.held.length v1c)⟩ ?_
 refine kQ ?_
 refine kEU [2,3,4,5,8] [] 3 ⟨34,[.int .i64 c.t.ip,.int .i64 c.t.port,.int .i64 c.t.my,.int .i64 c.state,.int .i64 ((acked c.s g.ack).1.una),.string ((acked c.s g.ack).1.data),.int .i64 ((acked c.s g.ack).1.sent),.bool ((acked c.s g.ack).1.fin),.bool ((acked c.s g.ack).1.finSent),.bool ((acked c.s g.ack).1.done),.int .i64 c.r.next,.string c.r.data,.slice v1a c.r.held.length v1c,.int .i64 c.r.fin,.bool c.r.done,.int .i64 (farW g.window c.o),.int .i64 (max c.most (farW g.window c.o)),.int .i64 c.o.mss,.int .i64 c.o.scale,.bool c.o.sack,.bool c.o.stamp,.int .i64 c.o.val,.int .i64 c.o.echo,.int .i64 0,.int .i64 0]⟩ ?_
 refine kQ ?_
 refine kED [2,3,4,5,63] [(63,.v (.bool (decide ((flown ((acked c.s g.ack).1)) > 0))))] ?_
 refine kC (decide ((flown ((acked c.s g.ack).1)) > 0)) (fun h6 => ?_) (fun h6 => ?_)
 have h6p := of_decide_eq_true h6
 refine kG ?_
 refine kEU [2,3,4,5] [] 3 ⟨34,[.int .i64 c.t.ip,.int .i64 c.t.port,.int .i64 c.t.my,.int .i64 c.state,.int .i64 ((acked c.s g.ack).1.una),.string ((acked c.s g.ack).1.data),.int .i64 ((acked c.s g.ack).1.sent),.bool ((acked c.s g.ack).1.fin),.bool ((acked c.s g.ack).1.finSent),.bool ((acked c.s g.ack).1.done),.int .i64 c.r.next,.string c.r.data,.slice v1a c.r.held.length v1c,.int .i64 c.r.fin,.bool c.r.done,.int .i64 (farW g.window c.o),.int .i64 (max c.most (farW g.window c.o)),.int .i64 c.o.mss,.int .i64 c.o.scale,.bool c.o.sack,.bool c.o.stamp,.int .i64 c.o.val,.int .i64 c.o.echo,.int .i64 3,.int .i64 0]⟩ ?_
 exact ⟨⟨(⟨c.t,c.state,(acked c.s g.ack).1,c.r,farW g.window c.o,max c.most (farW g.window c.o),c.o,3,0⟩),(by unfold heardMid; first | (simp [*]; done) | grind)⟩,kF 5 0 [2,3,4,5]⟩
 have h6p := of_decide_eq_false h6
 refine kK ?_
 exact ⟨⟨(⟨c.t,c.state,(acked c.s g.ack).1,c.r,farW g.window c.o,max c.most (farW g.window c.o),c.o,0,0⟩),(by unfold heardMid; first | (simp [*]; done) | grind)⟩,kF 5 0 [2,3,4,5]⟩
 have h5p := neF h5
 refine kK ?_
 exact ⟨⟨({ c with s := (acked c.s g.ack).1,window := farW g.window c.o,most := max c.most (farW g.window c.o) }),(by unfold heardMid; first | (simp [*]; done) | grind)⟩,kF 5 0 [2,3,4,5]⟩
 have h4p := neF h4
 refine kRD 4 [2,3,4,5,8,55] [(55,.v (.bool ((flown ((acked c.s g.ack).1)) == 0)))] ?_
 refine kP 55 ((flown ((acked c.s g.ack).1)) == 0) (fun h7 => ?_) (fun h7 => ?_)
 have h7p := eqT h7
 refine kED [2,3,4,5,8,59] [(59,.v (.bool (c.state != 7)))] ?_
 refine kC (c.state != 7) (fun h8 => ?_) (fun h8 => ?_)
 have h8p := neT h8
 refine kQ ?_
 refine kEU [2,3,4,5,8] [] 3 ⟨34,conL { c with s := (acked c.s g.ack).1,window := farW g.window c.o,most := max c.most (farW g.window c.o),tries := 0 } (.slice v1a c.r.held.length v1c)⟩ ?_
 refine kQ ?_
 refine kEU [2,3,4,5,8] [] 3 ⟨34,[.int .i64 c.t.ip,.int .i64 c.t.port,.int .i64 c.t.my,.int .i64 c.state,.int .i64 ((acked c.s g.ack).1.una),.string ((acked c.s g.ack).1.data),.int .i64 ((acked c.s g.ack).1.sent),.bool ((acked c.s g.ack).1.fin),.bool ((acked c.s g.ack).1.finSent),.bool ((acked c.s g.ack).1.done),.int .i64 c.r.next,.string c.r.data,.slice v1a c.r.held.length v1c,.int .i64 c.r.fin,.bool c.r.done,.int .i64 (farW g.window c.o),.int .i64 (max c.most (farW g.window c.o)),.int .i64 c.o.mss,.int .i64 c.o.scale,.bool c.o.sack,.bool c.o.stamp,.int .i64 c.o.val,.int .i64 c.o.echo,.int .i64 0,.int .i64 0]⟩ ?_
 refine kQ ?_
 refine kED [2,3,4,5,63] [(63,.v (.bool (decide ((flown ((acked c.s g.ack).1)) > 0))))] ?_
 refine kC (decide ((flown ((acked c.s g.ack).1)) > 0)) (fun h9 => ?_) (fun h9 => ?_)
 have h9p := of_decide_eq_true h9
 refine kG ?_
 refine kEF [2,3,4,5] ⟨[(2,.p 0 0),(3,.p 1 0),(4,.p 2 0),(5,.p 3 0)],[⟨34,conL c (.slice Acrh c.r.held.length Ccrh)⟩,⟨36,segL g⟩,⟨34,conZ⟩,⟨34,[.int .i64 c.t.ip,.int .i64 c.t.port,.int .i64 c.t.my,.int .i64 c.state,.int .i64 ((acked c.s g.ack).1.una),.string ((acked c.s g.ack).1.data),.int .i64 ((acked c.s g.ack).1.sent),.bool ((acked c.s g.ack).1.fin),.bool ((acked c.s g.ack).1.finSent),.bool ((acked c.s g.ack).1.done),.int .i64 c.r.next,.string c.r.data,.slice v1a c.r.held.length v1c,.int .i64 c.r.fin,.bool c.r.done,.int .i64 (farW g.window c.o),.int .i64 (max c.most (farW g.window c.o)),.int .i64 c.o.mss,.int .i64 c.o.scale,.bool c.o.sack,.bool c.o.stamp,.int .i64 c.o.val,.int .i64 c.o.echo,.int .i64 3,.int .i64 0]⟩,⟨27,sndL (acked c.s g.ack).1⟩],[],[ownF w.heap.size (.slice v1a c.r.held.length v1c) 2 (c.r.held.map pceCells),slF (.slice Acrh c.r.held.length Ccrh) 2 (c.r.held.map pceCells)]⟩ ?_
 exact ⟨⟨(⟨c.t,c.state,(acked c.s g.ack).1,c.r,farW g.window c.o,max c.most (farW g.window c.o),c.o,3,0⟩),(by unfold heardMid; first | (simp [*]; done) | grind)⟩,kF 5 0 [2,3,4,5]⟩
 have h9p := of_decide_eq_false h9
 refine kK ?_
 exact ⟨⟨(⟨c.t,c.state,(acked c.s g.ack).1,c.r,farW g.window c.o,max c.most (farW g.window c.o),c.o,0,0⟩),(by unfold heardMid; first | (simp [*]; done) | grind)⟩,kF 5 0 [2,3,4,5]⟩
 have h8p := neF h8
 refine kK ?_
 exact ⟨⟨({ c with s := (acked c.s g.ack).1,window := farW g.window c.o,most := max c.most (farW g.window c.o) }),(by unfold heardMid; first | (simp [*]; done) | grind)⟩,kF 5 0 [2,3,4,5]⟩
 have h7p := eqF h7
 refine kED [2,3,4,5,8,59] [(59,.v (.bool false))] ?_
 refine kN ?_
 refine kK ?_
 exact ⟨⟨({ c with s := (acked c.s g.ack).1,window := farW g.window c.o,most := max c.most (farW g.window c.o) }),(by unfold heardMid; first | (simp [*]; done) | grind)⟩,kF 5 0 [2,3,4,5]⟩
 refine kK ?_
 exact ⟨⟨(c),(by unfold heardMid; first | (simp [*]; done) | grind)⟩,kF 5 0 [2,3,4,5]⟩
 rintro ⟨m,hm5⟩
 try dsimp only
 try dsimp only at hm5
 have hmr : m.r = c.r := by rw [hm5]; exact (heardMid_eq c g).1
 have hm1 : m.r.held.length ≤ 1048576 := by rw [hmr]; exact hkn
 have hm2 : ∀ p ∈ m.r.held,p.text.size ≤ 1048576 := by rw [hmr]; exact hm
 have hm3 : m.r.data.size ≤ 4611686018427387904 := by rw [hmr]; exact hsz
 refine kS ?_
 refine kQ ?_
 refine kCD 2 [2,3,4,5,66] [(66,.v (.int .i64 c.state))] 78 [.int .i64 c.state,.int .i64 1,.int .i64 3] (some 67) rfl (xc_s fun ww hf => l1In_c c.state 1 3 ww ) ?_
 intro _
 refine kED [2,3,4,5,67] [] ?_
 refine kC (inB c.state 1 3) (fun h10 => ?_) (fun h10 => ?_)
 have h10i := inB_tt.1 (show inB c.state 1 3 = true from by simpa using h10)
 refine xe_region0 [true,true,true,false,true] (by kernel_rfl) (fun ρ σ => ?_)
 refine kTS [0,1,2,3,4,5,6] [74,73,71,69,4,5] 4 [(74,.v (.agg (segL g).toArray)),(73,.v (.string g.body)),(71,.v (.int .i64 g.seq)),(69,.v (.agg (rcvL c.r (.slice Acrh c.r.held.length Ccrh)).toArray)),(4,.p 2 0),(5,.p 3 0)] ?_
 refine kA [7] ?_
 refine kSC 7 51 [.agg (segL g).toArray,.int .i64 1] (some 75) rfl (xc_b fun ww hf => sHas_c g.src g.dst g.seq g.ack g.flags g.window g.o.mss g.o.scale g.o.sack g.o.stamp g.o.val g.o.echo g.body 1 ww ) ?_
 intro _
 refine kA [8] ?_
 refine kSC 8 139 [.agg (rcvL c.r (.slice Acrh c.r.held.length Ccrh)).toArray,.int .i64 g.seq,.string g.body,.bool (hasF g.flags 1)] (some 76) rfl (xc_r fun ww hw hf => ysArrived_c c.r (.slice Acrh c.r.held.length Ccrh) g.seq g.body (hasF g.flags 1) ww (hf _ m1) (by assumption) (by assumption) (by omega) (by omega) w.heap.size hw) ?_
 rintro ⟨v11a,v11c⟩
 have hz12 := arrived_sz (H := 1048576) (T := 1048576) (D := 4611686018427387904) (r := c.r) (seq := g.seq) (t := g.body) (fin := (hasF g.flags 1)) (by assumption) (by assumption) (by assumption) (by omega) (by omega) (by omega)
 obtain ⟨hz12a,hz12b,hz12c⟩ := hz12
 refine kTS [9] [77,76,4,5] 1 [(77,.p 3 10),(76,.v (.agg (rcvL (arrived c.r g.seq g.body (hasF g.flags 1)) (.slice v11a ((arrived c.r g.seq g.body (hasF g.flags 1)).held.length) v11c)).toArray)),(4,.p 2 0),(5,.p 3 0)] ?_
 refine kA [10] ?_
 refine kSS 10 3 10 (rcvL (arrived c.r g.seq g.body (hasF g.flags 1)) (.slice v11a ((arrived c.r g.seq g.body (hasF g.flags 1)).held.length) v11c)) rfl ?_
 refine kZ ?_
 refine kQ ?_
 refine kCD 1 [4,78] [(78,.v (.agg (conL { m with r := (arrived c.r g.seq g.body (hasF g.flags 1)) } (.slice v11a ((arrived c.r g.seq g.body (hasF g.flags 1)).held.length) v11c)).toArray))] 140 [.agg (conL { m with r := (arrived c.r g.seq g.body (hasF g.flags 1)) } (.slice v11a ((arrived c.r g.seq g.body (hasF g.flags 1)).held.length) v11c)).toArray] (some 79) rfl (xc_r fun ww hw hf => ysTurned_c ({ m with r := (arrived c.r g.seq g.body (hasF g.flags 1)) }) (.slice v11a ((arrived c.r g.seq g.body (hasF g.flags 1)).held.length) v11c) ww (rowF_sl (hf _ m0)) (by assumption) (by assumption) (by omega) w.heap.size hw) ?_
 rintro ⟨v13a,v13c⟩
 have hbd14 : (turned ({ m with r := (arrived c.r g.seq g.body (hasF g.flags 1)) })).r.held.length ≤ 1048576 := turned_bd _  (by omega)
 refine kEU [4] [(4,.p 2 0)] 2 ⟨34,conL (turned ({ m with r := (arrived c.r g.seq g.body (hasF g.flags 1)) })) (.slice v13a ((turned ({ m with r := (arrived c.r g.seq g.body (hasF g.flags 1)) })).r.held.length) v13c)⟩ ?_
 refine kR ?_
 have hmod : heard c g = (turned ({ m with r := (arrived c.r g.seq g.body (hasF g.flags 1)) })) := by first | (unfold heard; rw [if_pos hv5,← hm5]; unfold heardR; rw [if_pos (by assumption)]; done) | (unfold heard; rw [if_pos hv5,← hm5]; unfold heardR; rw [if_neg (by simp [*]; done),← hmr]; done) | (unfold heard; rw [if_neg hv5]; done)
 exact ⟨[.agg (conL (turned ({ m with r := (arrived c.r g.seq g.body (hasF g.flags 1)) })) (.slice v13a ((turned ({ m with r := (arrived c.r g.seq g.body (hasF g.flags 1)) })).r.held.length) v13c)).toArray],by kernel_rfl,fun w' hb hf ha => by rw [hmod]; exact xo1 ((v13a,v13c)) rfl rfl (pO (hf _ m0) hB) hb⟩
 have h10i := inB_ff.1 (show inB c.state 1 3 = false from by simpa using h10)
 refine kK ?_
 refine kQ ?_
 refine kCD 1 [4,78] [(78,.v (.agg (conL m (.slice v1a m.r.held.length v1c)).toArray))] 140 [.agg (conL m (.slice v1a m.r.held.length v1c)).toArray] (some 79) rfl (xc_r fun ww hw hf => ysTurned_c m (.slice v1a m.r.held.length v1c) ww (Own.sl (hf _ m0)) (by assumption) (by assumption) (by omega) w.heap.size hw) ?_
 rintro ⟨v15a,v15c⟩
 have hbd16 : (turned m).r.held.length ≤ 1048576 := turned_bd _  (by omega)
 refine kEU [4] [(4,.p 2 0)] 2 ⟨34,conL (turned m) (.slice v15a ((turned m).r.held.length) v15c)⟩ ?_
 refine kR ?_
 have hmod : heard c g = (turned m) := by first | (unfold heard; rw [if_pos hv5,← hm5]; unfold heardR; rw [if_pos (by assumption)]; done) | (unfold heard; rw [if_pos hv5,← hm5]; unfold heardR; rw [if_neg (by simp [*]; done),← hmr]; done) | (unfold heard; rw [if_neg hv5]; done)
 exact ⟨[.agg (conL (turned m) (.slice v15a ((turned m).r.held.length) v15c)).toArray],by kernel_rfl,fun w' hb hf ha => by rw [hmod]; exact xo1 ((v15a,v15c)) rfl rfl (pO (hf _ m0) hB) hb⟩
theorem ysReceive_c (c : Con) (c_r_heldV : Value) (g : Seg) (w : World) (hl_c_r_heldV : Sl w c_r_heldV 2 (c.r.held.map pceCells)) (hkn : c.r.held.length ≤ 1048576)(hgz : g.body.size ≤ 1048576) (hm : ∀ p ∈ c.r.held, p.text.size ≤ 1048576) (hsz : c.r.data.size ≤ 4611686018427387904) (B : Nat) (hB : B ≤ w.heap.size) : Calls Tryz.prog 128 #[.agg (conL c c_r_heldV).toArray, .agg (segL g).toArray] w fun e w' => XRs w w' e (α := (Option Addr × Nat) × (Option Addr × Nat)) (fun y => .tuple #[.agg (conL (received c g).1 (.slice y.1.1 ((received c g).1.r.held.length) y.1.2)).toArray, .slice y.2.1 ((received c g).2.1.length) y.2.2, .int .i64 ((received c g).2.2)]) (fun y => [ownF B (.slice y.1.1 ((received c g).1.r.held.length) y.1.2) 2 ((received c g).1.r.held.map pceCells), ownF B (.slice y.2.1 ((received c g).2.1.length) y.2.2) 13 ((received c g).2.1.map segCells)]) := by
 obtain ⟨Acrh,Ccrh,hvcrh⟩ := hl_c_r_heldV.form
 rw [List.length_map] at hvcrh; subst hvcrh
 have hncrh := hl_c_r_heldV.len; rw [List.length_map] at hncrh
 have hqcrh := Sl.capLe hl_c_r_heldV
 refine x_callsA (args := [.agg (conL c (.slice Acrh c.r.held.length Ccrh)).toArray,.agg (segL g).toArray]) (fn := Tryz.f128) [slF (.slice Acrh c.r.held.length Ccrh) 2 (c.r.held.map pceCells)] Tryz.func128 rfl Tryz.ntmps128 rfl (by simp only [List.mem_cons,List.not_mem_nil,or_false,forall_eq_or_imp,forall_eq]; exact ⟨rfl,hl_c_r_heldV⟩) ?_
 refine kQ ?_
 refine kEF [2,3,4] ⟨[(2,.p 0 0),(3,.p 1 0),(4,.p 2 0)],[⟨34,conL c (.slice Acrh c.r.held.length Ccrh)⟩,⟨36,segL g⟩,⟨34,conZ⟩],[],[slF (.slice Acrh c.r.held.length Ccrh) 2 (c.r.held.map pceCells)]⟩ ?_
 refine kQ ?_
 refine kCD 1 [2,3,4,13] [(13,.v (.agg (conL c (.slice Acrh c.r.held.length Ccrh)).toArray))] 70 [.agg (conL c (.slice Acrh c.r.held.length Ccrh)).toArray] (some 14) rfl (xc_r fun ww hw hf => yl19Copy_c c (.slice Acrh c.r.held.length Ccrh) ww (hf _ m0) (by assumption) w.heap.size hw) ?_
 rintro ⟨v1a,v1c⟩
 refine kEA [2,3,4,7] [(7,.p 3 0)] [⟨34,conL c (.slice v1a c.r.held.length v1c)⟩] ?_
 refine kQ ?_
 refine kHD 0 [2,3,4,7] [] rfl (hv_build (e := 36) (K := 13) (bytes := 104) [] rfl (by kernel_rfl) (by kernel_rfl) (by kernel_rfl) (by kernel_rfl) (by kernel_rfl) (rs := ([] : List Seg).map segCells) rfl) ?_
 intro g2
 refine kED [2,3,4,7,8] [(8,.v (.slice (some ⟨g2,0,none⟩) 0 0))] ?_
 refine kQ ?_
 refine kCD 2 [2,3,4,7,8,16,17] [(16,.v (.agg (conL c (.slice Acrh c.r.held.length Ccrh)).toArray)),(17,.v (.agg (segL g).toArray))] 13 [.agg (conL c (.slice Acrh c.r.held.length Ccrh)).toArray,.agg (segL g).toArray] (some 18) rfl (xc_b fun ww hf => ysVerdict_c c (.slice Acrh c.r.held.length Ccrh) g ww (hf _ m2) (by omega) (by assumption) (by omega)) ?_
 intro _
 refine kED [2,3,4,7,8,9] [(9,.v (.int .i64 (verdict c g)))] ?_
 refine kS ?_
 refine kQ ?_
 refine kED [2,3,4,7,8,9,19] [(19,.v (.int .i64 (verdict c g)))] ?_
 refine xw_block ?_
 refine kQ ?_
 refine kED [2,3,4,7,8,9,19,20] [(20,.v (.bool ((verdict c g) == 1)))] ?_
 refine kC ((verdict c g) == 1) (fun h3 => ?_) (fun h3 => ?_)
 have h3p := eqT h3
 refine kQ ?_
 refine kEU [4,5,6] [(5,.v (.slice (some ⟨g2,0,none⟩) 0 0)),(6,.v (.int .i64 (verdict c g)))] 2 ⟨34,conL c (.slice v1a c.r.held.length v1c)⟩ ?_
 refine kR ?_
 have hmod : received c g = (c,([] : List Seg),(verdict c g)) := by first | (simp [received,answered,ackOf, *]; done) | grind [received,answered,ackOf]
 exact ⟨[.agg (conL c (.slice v1a c.r.held.length v1c)).toArray,.slice (some ⟨g2,0,none⟩) 0 0,.int .i64 (verdict c g)],by kernel_rfl,fun w' hb hf ha => by rw [hmod]; exact xo2 ((v1a,v1c),(((some ⟨g2,0,none⟩) : Option Addr),0)) rfl rfl (pO (hf _ m1) hB) (pR (hf _ m0) hB) (Apart.sub2 ha (i := 1) (j := 0) rfl rfl (by decide) rfl (fun b h => h) (fun b h => rowF_blk h)) hb⟩
 have h3p := eqF h3
 refine kQ ?_
 refine kED [2,3,4,7,8,9,19,25] [(25,.v (.bool ((verdict c g) == 2)))] ?_
 refine kC ((verdict c g) == 2) (fun h4 => ?_) (fun h4 => ?_)
 have h4p := eqT h4
 refine kQ ?_
 refine kEU [4,7,8,9] [] 3 ⟨34,conL { c with state := 8 } (.slice v1a c.r.held.length v1c)⟩ ?_
 refine kQ ?_
 refine kEF [4,7,8,9] ⟨[(4,.p 2 0),(7,.p 3 0),(8,.v (.slice (some ⟨g2,0,none⟩) 0 0)),(9,.v (.int .i64 (verdict c g)))],[⟨34,conL c (.slice Acrh c.r.held.length Ccrh)⟩,⟨36,segL g⟩,⟨34,conZ⟩,⟨34,conL { c with state := 8,timer := 0 } (.slice v1a c.r.held.length v1c)⟩],[],[rowF w.heap.size 36 13 (.slice (some ⟨g2,0,none⟩) 0 0) (([] : List Seg).map segCells),ownF w.heap.size (.slice v1a c.r.held.length v1c) 2 (c.r.held.map pceCells),slF (.slice Acrh c.r.held.length Ccrh) 2 (c.r.held.map pceCells)]⟩ ?_
 refine kQ ?_
 refine kEU [4,7,8,9] [] 3 ⟨34,conL { c with state := 8,timer := 0,tries := 0 } (.slice v1a c.r.held.length v1c)⟩ ?_
 refine kQ ?_
 refine kEU [4,5,6] [(5,.v (.slice (some ⟨g2,0,none⟩) 0 0)),(6,.v (.int .i64 (verdict c g)))] 2 ⟨34,conL { c with state := 8,timer := 0,tries := 0 } (.slice v1a c.r.held.length v1c)⟩ ?_
 refine kR ?_
 have hmod : received c g = (({ c with state := 8,timer := 0,tries := 0 }),([] : List Seg),(verdict c g)) := by first | (simp [received,answered,ackOf, *]; done) | grind [received,answered,ackOf]
 exact ⟨[.agg (conL { c with state := 8,timer := 0,tries := 0 } (.slice v1a c.r.held.length v1c)).toArray,.slice (some ⟨g2,0,none⟩) 0 0,.int .i64 (verdict c g)],by kernel_rfl,fun w' hb hf ha => by rw [hmod]; exact xo2 ((v1a,v1c),(((some ⟨g2,0,none⟩) : Option Addr),0)) rfl rfl (pO (hf _ m1) hB) (pR (hf _ m0) hB) (Apart.sub2 ha (i := 1) (j := 0) rfl rfl (by decide) rfl (fun b h => h) (fun b h => rowF_blk h)) hb⟩
 have h4p := eqF h4
 refine kS ?_
 refine kQ ?_
 refine kED [2,3,4,7,8,9,19,33] [(33,.v (.bool ((verdict c g) == 3)))] ?_
 refine kC ((verdict c g) == 3) (fun h5 => ?_) (fun h5 => ?_)
 have h5p := eqT h5
 refine kK ?_
 refine kC ((verdict c g) == 3) (fun h6 => ?_) (fun h6 => ?_)
 have h6p := eqT h6
 refine kS ?_
 refine xw_joinF (α := {zz : Int // (fun (tm : Int) => tm = if verdict c g = 4 ∧ c.state = 7 ∧ hasF g.flags 1 = true then 4 else c.timer) zz}) (fun zz => (fun (tm : Int) => (⟨[(2,.p 0 0),(4,.p 2 0),(7,.p 3 0),(9,.v (.int .i64 (verdict c g)))],[⟨34,conL c (.slice Acrh c.r.held.length Ccrh)⟩,⟨36,segL g⟩,⟨34,conZ⟩,⟨34,conL { c with timer := tm } (.slice v1a c.r.held.length v1c)⟩],[],[rowF w.heap.size 36 13 (.slice (some ⟨g2,0,none⟩) 0 0) (([] : List Seg).map segCells),ownF w.heap.size (.slice v1a c.r.held.length v1c) 2 (c.r.held.map pceCells),slF (.slice Acrh c.r.held.length Ccrh) 2 (c.r.held.map pceCells)]⟩ : St)) zz.1) ?_ ?_
 refine kQ ?_
 refine kRS 3 [2,3,4,7,9,38] [(2,.p 0 0),(3,.p 1 0),(4,.p 2 0),(7,.p 3 0),(9,.v (.int .i64 (verdict c g))),(38,.v (.bool ((verdict c g) == 4)))] ?_
 refine kP 38 ((verdict c g) == 4) (fun h7 => ?_) (fun h7 => ?_)
 have h7p := eqT h7
 exfalso; omega
 have h7p := eqF h7
 refine kED [2,4,7,9,46] [(46,.v (.bool false))] ?_
 refine kN ?_
 refine kK ?_
 exact ⟨⟨(c.timer),(by first | (rw [if_neg (by rintro ⟨q1,q2,q3⟩; omega)]; done) | (rw [if_neg (by rintro ⟨q1,q2,q3⟩; simp_all; done)]; done) | (rw [if_pos ⟨by omega,by omega,by assumption⟩]; done))⟩,kF 4 0 [2,4,7,9]⟩
 rintro ⟨tm,htm⟩
 try dsimp only
 try dsimp only at htm
 refine kS ?_
 refine xw_joinE (α := Nat) (fun y => (fun (g9 : Nat) => (⟨[(4,.p 2 0),(5,.v (.slice (some ⟨g9,0,none⟩) 1 1)),(6,.v (.int .i64 (verdict c g)))],[⟨34,conL c (.slice Acrh c.r.held.length Ccrh)⟩,⟨36,segL g⟩,⟨34,conL { c with timer := tm } (.slice v1a c.r.held.length v1c)⟩,⟨34,conL { c with timer := tm } (.slice v1a c.r.held.length v1c)⟩],[],[rowF w.heap.size 36 13 (.slice (some ⟨g9,0,none⟩) 1 1) (([⟨c.t.my,c.t.port,nextOf c.s,c.r.next,16,windowOf c.r,⟨0,(-1),false,false,0,0⟩,(⟨#[]⟩ : ByteArray)⟩] : List Seg).map segCells),rowF w.heap.size 36 13 (.slice (some ⟨g2,0,none⟩) 0 0) (([] : List Seg).map segCells),ownF w.heap.size (.slice v1a c.r.held.length v1c) 2 (c.r.held.map pceCells),slF (.slice Acrh c.r.held.length Ccrh) 2 (c.r.held.map pceCells)]⟩ : St)) y) ?_ ?_
 refine xe_region0 [true,true,false,true] (by kernel_rfl) (fun ρ σ => ?_)
 refine kTS [0,1,4] [52,49,48,4] 5 [(52,.v (.int .i64 (verdict c g))),(49,.v (.agg (conL c (.slice Acrh c.r.held.length Ccrh)).toArray)),(48,.v (.agg (conL { c with timer := tm } (.slice v1a c.r.held.length v1c)).toArray)),(4,.p 2 0)] ?_
 refine kA [2] ?_
 refine kSC 2 72 [.agg (conL c (.slice Acrh c.r.held.length Ccrh)).toArray] (some 50) rfl (xc_b fun ww hf => sAckOf_c c.t.ip c.t.port c.t.my c.state c.s.una c.s.data c.s.sent c.s.fin c.s.finSent c.s.done c.r.next c.r.data c.r.held (.slice Acrh c.r.held.length Ccrh) c.r.fin c.r.done c.window c.most c.o.mss c.o.scale c.o.sack c.o.stamp c.o.val c.o.echo c.timer c.tries ww (by omega)) ?_
 intro _
 refine kA [3,5] ⟨?_,?_⟩
 refine kSH 3 rfl (under_t (under_t (under_f rfl (under_t under_nil)))) (hv_build (e := 36) (K := 13) (bytes := 104) [.agg #[.int .i64 c.t.my,.int .i64 c.t.port,.int .i64 (nextOf c.s),.int .i64 c.r.next,.int .i64 16,.int .i64 (windowOf c.r),.int .i64 0,.int .i64 (-1),.bool false,.bool false,.int .i64 0,.int .i64 0,.string (⟨#[]⟩ : ByteArray)]] rfl (by kernel_rfl) (by kernel_rfl) (by kernel_rfl) (by kernel_rfl) (by kernel_rfl) (rs := ([⟨c.t.my,c.t.port,nextOf c.s,c.r.next,16,windowOf c.r,⟨0,(-1),false,false,0,0⟩,(⟨#[]⟩ : ByteArray)⟩] : List Seg).map segCells) rfl) ?_
 intro g9
 refine kA [5] ?_
 refine kSS 5 2 0 (conL { c with timer := tm } (.slice v1a c.r.held.length v1c)) rfl ?_
 refine kTD [6,7] [6,5,4] 0 [(6,.v (.int .i64 (verdict c g))),(5,.v (.slice (some ⟨g9,0,none⟩) 1 1))] ?_
 refine kZ ?_
 exact ⟨(g9),kF 4 0 [4,5,6]⟩
 refine kSS 5 2 0 (conL { c with timer := tm } (.slice v1a c.r.held.length v1c)) rfl ?_
 refine kA [3] ?_
 refine kSH 3 rfl (under_t (under_t (under_f rfl (under_t under_nil)))) (hv_build (e := 36) (K := 13) (bytes := 104) [.agg #[.int .i64 c.t.my,.int .i64 c.t.port,.int .i64 (nextOf c.s),.int .i64 c.r.next,.int .i64 16,.int .i64 (windowOf c.r),.int .i64 0,.int .i64 (-1),.bool false,.bool false,.int .i64 0,.int .i64 0,.string (⟨#[]⟩ : ByteArray)]] rfl (by kernel_rfl) (by kernel_rfl) (by kernel_rfl) (by kernel_rfl) (by kernel_rfl) (rs := ([⟨c.t.my,c.t.port,nextOf c.s,c.r.next,16,windowOf c.r,⟨0,(-1),false,false,0,0⟩,(⟨#[]⟩ : ByteArray)⟩] : List Seg).map segCells) rfl) ?_
 intro g11
 refine kTD [6,7] [6,5,4] 0 [(6,.v (.int .i64 (verdict c g))),(5,.v (.slice (some ⟨g11,0,none⟩) 1 1))] ?_
 refine kZ ?_
 exact ⟨(g11),kF 4 0 [4,5,6]⟩
 intro g9
 refine kR ?_
 have hmod : received c g = (({ c with timer := tm }),([⟨c.t.my,c.t.port,nextOf c.s,c.r.next,16,windowOf c.r,⟨0,(-1),false,false,0,0⟩,(⟨#[]⟩ : ByteArray)⟩] : List Seg),(verdict c g)) := by first | (have hv4 : verdict c g = 4 := (by assumption); exact (received_ack hv4 htm).trans (by rw [hv4]; first | done | rfl)) | (have hv3 : verdict c g = 3 := (by assumption); exact (received_chal hv3 htm).trans (by rw [hv3]; first | done | rfl))
 exact ⟨[.agg (conL { c with timer := tm } (.slice v1a c.r.held.length v1c)).toArray,.slice (some ⟨g9,0,none⟩) 1 1,.int .i64 (verdict c g)],by kernel_rfl,fun w' hb hf ha => by rw [hmod]; exact xo2 ((v1a,v1c),(((some ⟨g9,0,none⟩) : Option Addr),1)) rfl rfl (pO (hf _ m2) hB) (pR (hf _ m0) hB) (Apart.sub2 ha (i := 2) (j := 0) rfl rfl (by decide) rfl (fun b h => h) (fun b h => rowF_blk h)) hb⟩
 have h6p := eqF h6
 refine kK ?_
 refine kQ ?_
 refine kCS 2 [3,4,7,8,9,53,54] [(3,.p 1 0),(4,.p 2 0),(7,.p 3 0),(8,.v (.slice (some ⟨g2,0,none⟩) 0 0)),(9,.v (.int .i64 (verdict c g))),(53,.v (.agg (conL c (.slice Acrh c.r.held.length Ccrh)).toArray)),(54,.v (.agg (segL g).toArray))] 137 [.agg (conL c (.slice Acrh c.r.held.length Ccrh)).toArray,.agg (segL g).toArray] (some 55) rfl (xc_r fun ww hw hf => ysHeard_c c (.slice Acrh c.r.held.length Ccrh) g ww (hf _ m2) (by assumption) (by omega) (by assumption) (by omega) w.heap.size hw) ?_
 rintro ⟨v12a,v12c⟩
 have hv5 : verdict c g = 5 := by have := verdict_rng c g; omega
 have hhw := heard_w hv5
 have hz13 := heard_sz (H := 1048576) (T := 1048576) (D := 4611686018427387904) (c := c) (g := g) (by assumption) (by assumption) (by assumption) (by omega) (by omega) (by omega)
 obtain ⟨hz13a,hz13b,hz13c⟩ := hz13
 refine kEU [3,4,7,8,9] [] 3 ⟨34,conL (heard c g) (.slice v12a ((heard c g).r.held.length) v12c)⟩ ?_
 refine kS ?_
 refine kQ ?_
 refine kED [3,4,7,8,9,58] [(58,.v (.bool (((heard c g).state) == 8)))] ?_
 refine kC (((heard c g).state) == 8) (fun h14 => ?_) (fun h14 => ?_)
 have h14p := eqT h14
 refine kQ ?_
 refine kEU [4,5,6] [(5,.v (.slice (some ⟨g2,0,none⟩) 0 0)),(6,.v (.int .i64 (verdict c g)))] 2 ⟨34,conL (heard c g) (.slice v12a ((heard c g).r.held.length) v12c)⟩ ?_
 refine kR ?_
 have hmod : received c g = ((heard c g),([] : List Seg),(verdict c g)) := by first | (simp [received,answered,ackOf, *]; done) | grind [received,answered,ackOf]
 exact ⟨[.agg (conL (heard c g) (.slice v12a ((heard c g).r.held.length) v12c)).toArray,.slice (some ⟨g2,0,none⟩) 0 0,.int .i64 (verdict c g)],by kernel_rfl,fun w' hb hf ha => by rw [hmod]; exact xo2 ((v12a,v12c),(((some ⟨g2,0,none⟩) : Option Addr),0)) rfl rfl (pO (hf _ m0) hB) (pR (hf _ m1) hB) (Apart.sub2 ha (i := 0) (j := 1) rfl rfl (by decide) rfl (fun b h => h) (fun b h => rowF_blk h)) hb⟩
 have h14p := eqF h14
 refine kK ?_
 refine kQ ?_
 refine kCD 1 [3,4,7,9,62] [(62,.v (.agg (conL (heard c g) (.slice v12a ((heard c g).r.held.length) v12c)).toArray))] 72 [.agg (conL (heard c g) (.slice v12a ((heard c g).r.held.length) v12c)).toArray] (some 63) rfl (xc_b fun ww hf => sAckOf_c ((heard c g).t.ip) ((heard c g).t.port) ((heard c g).t.my) ((heard c g).state) ((heard c g).s.una) ((heard c g).s.data) ((heard c g).s.sent) ((heard c g).s.fin) ((heard c g).s.finSent) ((heard c g).s.done) ((heard c g).r.next) ((heard c g).r.data) ((heard c g).r.held) (.slice v12a ((heard c g).r.held.length) v12c) ((heard c g).r.fin) ((heard c g).r.done) ((heard c g).window) ((heard c g).most) ((heard c g).o.mss) ((heard c g).o.scale) ((heard c g).o.sack) ((heard c g).o.stamp) ((heard c g).o.val) ((heard c g).o.echo) ((heard c g).timer) ((heard c g).tries) ww (by omega)) ?_
 intro _
 refine kEA [3,4,7,9,10] [(10,.p 4 0)] [⟨36,[.int .i64 ((heard c g).t.my),.int .i64 ((heard c g).t.port),.int .i64 (nextOf ((heard c g).s)),.int .i64 ((heard c g).r.next),.int .i64 16,.int .i64 (windowOf ((heard c g).r)),.int .i64 0,.int .i64 (-1),.bool false,.bool false,.int .i64 0,.int .i64 0,.string (⟨#[]⟩ : ByteArray)]⟩] ?_
 refine kQ ?_
 refine kCD 3 [3,4,9,10,65,67] [(65,.v (.agg (conL (heard c g) (.slice v12a ((heard c g).r.held.length) v12c)).toArray)),(67,.v (.int .i64 ((heard c g).window)))] 37 [.agg (conL (heard c g) (.slice v12a ((heard c g).r.held.length) v12c)).toArray,.int .i64 ((heard c g).window)] (some 68) rfl (xc_r fun ww hw hf => ysPump_c (heard c g) (.slice v12a ((heard c g).r.held.length) v12c) ((heard c g).window) ww (Own.sl (hf _ m0)) (by assumption) (by assumption) (by omega) (by omega) w.heap.size hw) ?_
 rintro ⟨⟨v15a,v15c⟩,⟨v16a,v16c⟩⟩
 have hbd17 : (pump (heard c g) ((heard c g).window)).1.r.held.length ≤ 1048576 ∧ (pump (heard c g) ((heard c g).window)).2.length ≤ 49 := pump_bd _ _  (by omega)
 have hbd17a := hbd17.1; have hbd17b := hbd17.2
 refine kEA [3,4,9,10,11,12] [(11,.p 5 0),(12,.v (.slice v16a ((pump (heard c g) ((heard c g).window)).2.length) v16c))] [⟨34,conL (pump (heard c g) ((heard c g).window)).1 (.slice v15a ((pump (heard c g) ((heard c g).window)).1.r.held.length) v15c)⟩] ?_
 refine kS ?_
 refine kQ ?_
 refine kCD 1 [4,9,10,11,12,71] [(71,.v (.agg (segL g).toArray))] 40 [.agg (segL g).toArray] (some 72) rfl (xc_b fun ww hf => sSegmentLen_c g.src g.dst g.seq g.ack g.flags g.window g.o.mss g.o.scale g.o.sack g.o.stamp g.o.val g.o.echo g.body ww (by omega)) ?_
 intro _
 refine kRD 2 [4,9,10,11,12,74] [(74,.v (.bool (decide ((segLen g) > 0))))] ?_
 refine kP 74 (decide ((segLen g) > 0)) (fun h18 => ?_) (fun h18 => ?_)
 have h18p := of_decide_eq_true h18
 refine kED [4,9,10,11,12,78] [(78,.v (.bool ((((pump (heard c g) ((heard c g).window)).2.length : Nat) : Int) == 0)))] ?_
 refine kC ((((pump (heard c g) ((heard c g).window)).2.length : Nat) : Int) == 0) (fun h19 => ?_) (fun h19 => ?_)
 have h19p := eqT h19
 refine kG ?_
 refine kHD 2 [4,9,11,12,79,80] [(79,.v (.slice v16a ((pump (heard c g) ((heard c g).window)).2.length) v16c)),(80,.v (.agg #[.int .i64 ((heard c g).t.my),.int .i64 ((heard c g).t.port),.int .i64 (nextOf ((heard c g).s)),.int .i64 ((heard c g).r.next),.int .i64 16,.int .i64 (windowOf ((heard c g).r)),.int .i64 0,.int .i64 (-1),.bool false,.bool false,.int .i64 0,.int .i64 0,.string (⟨#[]⟩ : ByteArray)]))] rfl (hv_build (e := 36) (K := 13) (bytes := 104) [.agg #[.int .i64 ((heard c g).t.my),.int .i64 ((heard c g).t.port),.int .i64 (nextOf ((heard c g).s)),.int .i64 ((heard c g).r.next),.int .i64 16,.int .i64 (windowOf ((heard c g).r)),.int .i64 0,.int .i64 (-1),.bool false,.bool false,.int .i64 0,.int .i64 0,.string (⟨#[]⟩ : ByteArray)]] rfl (by kernel_rfl) (by kernel_rfl) (by kernel_rfl) (by kernel_rfl) (by kernel_rfl) (rs := ([⟨(heard c g).t.my,(heard c g).t.port,nextOf ((heard c g).s),(heard c g).r.next,16,windowOf ((heard c g).r),⟨0,(-1),false,false,0,0⟩,(⟨#[]⟩ : ByteArray)⟩] : List Seg).map segCells) rfl) ?_
 intro g20
 refine kHS 0 [4,9,11,12,79,81] [(4,.p 2 0),(9,.v (.int .i64 (verdict c g))),(11,.p 5 0),(12,.v (.slice v16a ((pump (heard c g) ((heard c g).window)).2.length) v16c)),(79,.v (.slice v16a ((pump (heard c g) ((heard c g).window)).2.length) v16c)),(81,.v (.slice (some ⟨g20,0,none⟩) 1 1))] rfl (hv_append (e := 36) (K := 13) (bytes := 104) (i := 2) (q := ((pump (heard c g) ((heard c g).window)).2 ++ ([⟨(heard c g).t.my,(heard c g).t.port,nextOf ((heard c g).s),(heard c g).r.next,16,windowOf ((heard c g).r),⟨0,(-1),false,false,0,0⟩,(⟨#[]⟩ : ByteArray)⟩] : List Seg)).length) (new := ([⟨(heard c g).t.my,(heard c g).t.port,nextOf ((heard c g).s),(heard c g).r.next,16,windowOf ((heard c g).r),⟨0,(-1),false,false,0,0⟩,(⟨#[]⟩ : ByteArray)⟩] : List Seg).map segCells) (rs' := ((pump (heard c g) ((heard c g).window)).2 ++ ([⟨(heard c g).t.my,(heard c g).t.port,nextOf ((heard c g).s),(heard c g).r.next,16,windowOf ((heard c g).r),⟨0,(-1),false,false,0,0⟩,(⟨#[]⟩ : ByteArray)⟩] : List Seg)).map segCells) rfl rfl rfl rfl (by kernel_rfl) (by kernel_rfl) (by kernel_rfl) rfl (by simp) (by rw [List.map_append]) (by simp) (fun ww hf => (rowF_sl (hf (rowF w.heap.size 36 13 (.slice (some ⟨g20,0,none⟩) 1 1) (([⟨(heard c g).t.my,(heard c g).t.port,nextOf ((heard c g).s),(heard c g).r.next,16,windowOf ((heard c g).r),⟨0,(-1),false,false,0,0⟩,(⟨#[]⟩ : ByteArray)⟩] : List Seg).map segCells)) (by simp)))) (by intro r hr; obtain ⟨x,hx,rfl⟩ := List.mem_map.1 hr; exact ⟨rfl,by simp [segCells,Value.oneCell']⟩) (by (try simp only [List.length_map,List.length_append,List.length_cons,List.length_nil,List.length_take,List.length_drop,maxLen]); omega) (by (try simp only [List.length_map,List.length_append,List.length_cons,List.length_nil,List.length_take,List.length_drop,maxLen]); omega)) ?_
 rintro ⟨v21a,v21c⟩
 refine kED [4,9,11,12] [(12,.v (.slice v21a (((pump (heard c g) ((heard c g).window)).2 ++ ([⟨(heard c g).t.my,(heard c g).t.port,nextOf ((heard c g).s),(heard c g).r.next,16,windowOf ((heard c g).r),⟨0,(-1),false,false,0,0⟩,(⟨#[]⟩ : ByteArray)⟩] : List Seg)).length) v21c))] ?_
 refine kQ ?_
 refine kEU [4,5,6] [(5,.v (.slice v21a (((pump (heard c g) ((heard c g).window)).2 ++ ([⟨(heard c g).t.my,(heard c g).t.port,nextOf ((heard c g).s),(heard c g).r.next,16,windowOf ((heard c g).r),⟨0,(-1),false,false,0,0⟩,(⟨#[]⟩ : ByteArray)⟩] : List Seg)).length) v21c)),(6,.v (.int .i64 (verdict c g)))] 2 ⟨34,conL (pump (heard c g) ((heard c g).window)).1 (.slice v15a ((pump (heard c g) ((heard c g).window)).1.r.held.length) v15c)⟩ ?_
 refine kR ?_
 have hmod : received c g = (((pump (heard c g) ((heard c g).window)).1),((pump (heard c g) ((heard c g).window)).2 ++ ([⟨(heard c g).t.my,(heard c g).t.port,nextOf ((heard c g).s),(heard c g).r.next,16,windowOf ((heard c g).r),⟨0,(-1),false,false,0,0⟩,(⟨#[]⟩ : ByteArray)⟩] : List Seg)),(verdict c g)) := by first | (simp [received,answered,ackOf, *]; done) | grind [received,answered,ackOf]
 exact ⟨[.agg (conL (pump (heard c g) ((heard c g).window)).1 (.slice v15a ((pump (heard c g) ((heard c g).window)).1.r.held.length) v15c)).toArray,.slice v21a (((pump (heard c g) ((heard c g).window)).2 ++ ([⟨(heard c g).t.my,(heard c g).t.port,nextOf ((heard c g).s),(heard c g).r.next,16,windowOf ((heard c g).r),⟨0,(-1),false,false,0,0⟩,(⟨#[]⟩ : ByteArray)⟩] : List Seg)).length) v21c,.int .i64 (verdict c g)],by kernel_rfl,fun w' hb hf ha => by rw [hmod]; exact xo2 ((v15a,v15c),(v21a,v21c)) rfl rfl (pO (hf _ m2) hB) (pR (hf _ m0) hB) (Apart.sub2 ha (i := 2) (j := 0) rfl rfl (by decide) rfl (fun b h => h) (fun b h => rowF_blk h)) hb⟩
 have h19p := eqF h19
 refine kK ?_
 refine kQ ?_
 refine kEU [4,5,6] [(5,.v (.slice v16a ((pump (heard c g) ((heard c g).window)).2.length) v16c)),(6,.v (.int .i64 (verdict c g)))] 2 ⟨34,conL (pump (heard c g) ((heard c g).window)).1 (.slice v15a ((pump (heard c g) ((heard c g).window)).1.r.held.length) v15c)⟩ ?_
 refine kR ?_
 have hmod : received c g = (((pump (heard c g) ((heard c g).window)).1),((pump (heard c g) ((heard c g).window)).2),(verdict c g)) := by first | (simp [received,answered,ackOf, *]; done) | grind [received,answered,ackOf]
 exact ⟨[.agg (conL (pump (heard c g) ((heard c g).window)).1 (.slice v15a ((pump (heard c g) ((heard c g).window)).1.r.held.length) v15c)).toArray,.slice v16a ((pump (heard c g) ((heard c g).window)).2.length) v16c,.int .i64 (verdict c g)],by kernel_rfl,fun w' hb hf ha => by rw [hmod]; exact xo2 ((v15a,v15c),(v16a,v16c)) rfl rfl (pO (hf _ m0) hB) (pR (hf _ m1) hB) (Apart.sub2 ha (i := 0) (j := 1) rfl rfl (by decide) rfl (fun b h => h) (fun b h => rowF_blk h)) hb⟩
 have h18p := of_decide_eq_false h18
 refine kED [4,9,10,11,12,78] [(78,.v (.bool false))] ?_
 refine kN ?_
 refine kK ?_
 refine kQ ?_
 refine kEU [4,5,6] [(5,.v (.slice v16a ((pump (heard c g) ((heard c g).window)).2.length) v16c)),(6,.v (.int .i64 (verdict c g)))] 2 ⟨34,conL (pump (heard c g) ((heard c g).window)).1 (.slice v15a ((pump (heard c g) ((heard c g).window)).1.r.held.length) v15c)⟩ ?_
 refine kR ?_
 have hmod : received c g = (((pump (heard c g) ((heard c g).window)).1),((pump (heard c g) ((heard c g).window)).2),(verdict c g)) := by first | (simp [received,answered,ackOf, *]; done) | grind [received,answered,ackOf]
 exact ⟨[.agg (conL (pump (heard c g) ((heard c g).window)).1 (.slice v15a ((pump (heard c g) ((heard c g).window)).1.r.held.length) v15c)).toArray,.slice v16a ((pump (heard c g) ((heard c g).window)).2.length) v16c,.int .i64 (verdict c g)],by kernel_rfl,fun w' hb hf ha => by rw [hmod]; exact xo2 ((v15a,v15c),(v16a,v16c)) rfl rfl (pO (hf _ m0) hB) (pR (hf _ m1) hB) (Apart.sub2 ha (i := 0) (j := 1) rfl rfl (by decide) rfl (fun b h => h) (fun b h => rowF_blk h)) hb⟩
 have h5p := eqF h5
 refine kG ?_
 refine kES [2,3,4,7,8,9,33] [(2,.p 0 0),(3,.p 1 0),(4,.p 2 0),(7,.p 3 0),(8,.v (.slice (some ⟨g2,0,none⟩) 0 0)),(9,.v (.int .i64 (verdict c g))),(33,.v (.bool ((verdict c g) == 4)))] ?_
 refine kC ((verdict c g) == 4) (fun h22 => ?_) (fun h22 => ?_)
 have h22p := eqT h22
 refine kS ?_
 refine xw_joinF (α := {zz : Int // (fun (tm : Int) => tm = if verdict c g = 4 ∧ c.state = 7 ∧ hasF g.flags 1 = true then 4 else c.timer) zz}) (fun zz => (fun (tm : Int) => (⟨[(2,.p 0 0),(4,.p 2 0),(7,.p 3 0),(9,.v (.int .i64 (verdict c g)))],[⟨34,conL c (.slice Acrh c.r.held.length Ccrh)⟩,⟨36,segL g⟩,⟨34,conZ⟩,⟨34,conL { c with timer := tm } (.slice v1a c.r.held.length v1c)⟩],[],[rowF w.heap.size 36 13 (.slice (some ⟨g2,0,none⟩) 0 0) (([] : List Seg).map segCells),ownF w.heap.size (.slice v1a c.r.held.length v1c) 2 (c.r.held.map pceCells),slF (.slice Acrh c.r.held.length Ccrh) 2 (c.r.held.map pceCells)]⟩ : St)) zz.1) ?_ ?_
 refine kQ ?_
 refine kRD 3 [2,3,4,7,9,38] [(38,.v (.bool ((verdict c g) == 4)))] ?_
 refine kP 38 ((verdict c g) == 4) (fun h23 => ?_) (fun h23 => ?_)
 have h23p := eqT h23
 refine kRD 5 [2,3,4,7,9,43] [(43,.v (.bool (c.state == 7)))] ?_
 refine kP 43 (c.state == 7) (fun h24 => ?_) (fun h24 => ?_)
 have h24p := eqT h24
 refine kCD 1 [2,4,7,9,43,44] [(43,.v (.bool true)),(44,.v (.agg (segL g).toArray))] 51 [.agg (segL g).toArray,.int .i64 1] (some 45) rfl (xc_b fun ww hf => sHas_c g.src g.dst g.seq g.ack g.flags g.window g.o.mss g.o.scale g.o.sack g.o.stamp g.o.val g.o.echo g.body 1 ww ) ?_
 intro _
 refine kED [2,4,7,9,46] [(46,.v (.bool (hasF g.flags 1)))] ?_
 refine kC (hasF g.flags 1) (fun h25 => ?_) (fun h25 => ?_)
 refine kG ?_
 refine kEU [2,4,7,9] [] 3 ⟨34,conL { c with timer := 4 } (.slice v1a c.r.held.length v1c)⟩ ?_
 exact ⟨⟨(4),(by first | (rw [if_neg (by rintro ⟨q1,q2,q3⟩; omega)]; done) | (rw [if_neg (by rintro ⟨q1,q2,q3⟩; simp_all; done)]; done) | (rw [if_pos ⟨by omega,by omega,by assumption⟩]; done))⟩,kF 4 0 [2,4,7,9]⟩
 refine kK ?_
 exact ⟨⟨(c.timer),(by first | (rw [if_neg (by rintro ⟨q1,q2,q3⟩; omega)]; done) | (rw [if_neg (by rintro ⟨q1,q2,q3⟩; simp_all; done)]; done) | (rw [if_pos ⟨by omega,by omega,by assumption⟩]; done))⟩,kF 4 0 [2,4,7,9]⟩
 have h24p := eqF h24
 refine kED [2,4,7,9,46] [(46,.v (.bool false))] ?_
 refine kN ?_
 refine kK ?_
 exact ⟨⟨(c.timer),(by first | (rw [if_neg (by rintro ⟨q1,q2,q3⟩; omega)]; done) | (rw [if_neg (by rintro ⟨q1,q2,q3⟩; simp_all; done)]; done) | (rw [if_pos ⟨by omega,by omega,by assumption⟩]; done))⟩,kF 4 0 [2,4,7,9]⟩
 have h23p := eqF h23
 refine kED [2,4,7,9,46] [(46,.v (.bool false))] ?_
 refine kN ?_
 refine kK ?_
 exact ⟨⟨(c.timer),(by first | (rw [if_neg (by rintro ⟨q1,q2,q3⟩; omega)]; done) | (rw [if_neg (by rintro ⟨q1,q2,q3⟩; simp_all; done)]; done) | (rw [if_pos ⟨by omega,by omega,by assumption⟩]; done))⟩,kF 4 0 [2,4,7,9]⟩
 rintro ⟨tm,htm⟩
 try dsimp only
 try dsimp only at htm
 refine kS ?_
 refine xw_joinE (α := Nat) (fun y => (fun (g27 : Nat) => (⟨[(4,.p 2 0),(5,.v (.slice (some ⟨g27,0,none⟩) 1 1)),(6,.v (.int .i64 (verdict c g)))],[⟨34,conL c (.slice Acrh c.r.held.length Ccrh)⟩,⟨36,segL g⟩,⟨34,conL { c with timer := tm } (.slice v1a c.r.held.length v1c)⟩,⟨34,conL { c with timer := tm } (.slice v1a c.r.held.length v1c)⟩],[],[rowF w.heap.size 36 13 (.slice (some ⟨g27,0,none⟩) 1 1) (([⟨c.t.my,c.t.port,nextOf c.s,c.r.next,16,windowOf c.r,⟨0,(-1),false,false,0,0⟩,(⟨#[]⟩ : ByteArray)⟩] : List Seg).map segCells),rowF w.heap.size 36 13 (.slice (some ⟨g2,0,none⟩) 0 0) (([] : List Seg).map segCells),ownF w.heap.size (.slice v1a c.r.held.length v1c) 2 (c.r.held.map pceCells),slF (.slice Acrh c.r.held.length Ccrh) 2 (c.r.held.map pceCells)]⟩ : St)) y) ?_ ?_
 refine xe_region0 [true,true,false,true] (by kernel_rfl) (fun ρ σ => ?_)
 refine kTD [0,1,4] [52,49,48,4] 5 [(52,.v (.int .i64 (verdict c g))),(49,.v (.agg (conL c (.slice Acrh c.r.held.length Ccrh)).toArray)),(48,.v (.agg (conL { c with timer := tm } (.slice v1a c.r.held.length v1c)).toArray))] ?_
 refine kA [2] ?_
 refine kSC 2 72 [.agg (conL c (.slice Acrh c.r.held.length Ccrh)).toArray] (some 50) rfl (xc_b fun ww hf => sAckOf_c c.t.ip c.t.port c.t.my c.state c.s.una c.s.data c.s.sent c.s.fin c.s.finSent c.s.done c.r.next c.r.data c.r.held (.slice Acrh c.r.held.length Ccrh) c.r.fin c.r.done c.window c.most c.o.mss c.o.scale c.o.sack c.o.stamp c.o.val c.o.echo c.timer c.tries ww (by omega)) ?_
 intro _
 refine kA [3,5] ⟨?_,?_⟩
 refine kSH 3 rfl (under_t (under_t (under_f rfl (under_t under_nil)))) (hv_build (e := 36) (K := 13) (bytes := 104) [.agg #[.int .i64 c.t.my,.int .i64 c.t.port,.int .i64 (nextOf c.s),.int .i64 c.r.next,.int .i64 16,.int .i64 (windowOf c.r),.int .i64 0,.int .i64 (-1),.bool false,.bool false,.int .i64 0,.int .i64 0,.string (⟨#[]⟩ : ByteArray)]] rfl (by kernel_rfl) (by kernel_rfl) (by kernel_rfl) (by kernel_rfl) (by kernel_rfl) (rs := ([⟨c.t.my,c.t.port,nextOf c.s,c.r.next,16,windowOf c.r,⟨0,(-1),false,false,0,0⟩,(⟨#[]⟩ : ByteArray)⟩] : List Seg).map segCells) rfl) ?_
 intro g27
 refine kA [5] ?_
 refine kSS 5 2 0 (conL { c with timer := tm } (.slice v1a c.r.held.length v1c)) rfl ?_
 refine kTD [6,7] [6,5,4] 0 [(6,.v (.int .i64 (verdict c g))),(5,.v (.slice (some ⟨g27,0,none⟩) 1 1))] ?_
 refine kZ ?_
 exact ⟨(g27),kF 4 0 [4,5,6]⟩
 refine kSS 5 2 0 (conL { c with timer := tm } (.slice v1a c.r.held.length v1c)) rfl ?_
 refine kA [3] ?_
 refine kSH 3 rfl (under_t (under_t (under_f rfl (under_t under_nil)))) (hv_build (e := 36) (K := 13) (bytes := 104) [.agg #[.int .i64 c.t.my,.int .i64 c.t.port,.int .i64 (nextOf c.s),.int .i64 c.r.next,.int .i64 16,.int .i64 (windowOf c.r),.int .i64 0,.int .i64 (-1),.bool false,.bool false,.int .i64 0,.int .i64 0,.string (⟨#[]⟩ : ByteArray)]] rfl (by kernel_rfl) (by kernel_rfl) (by kernel_rfl) (by kernel_rfl) (by kernel_rfl) (rs := ([⟨c.t.my,c.t.port,nextOf c.s,c.r.next,16,windowOf c.r,⟨0,(-1),false,false,0,0⟩,(⟨#[]⟩ : ByteArray)⟩] : List Seg).map segCells) rfl) ?_
 intro g29
 refine kTD [6,7] [6,5,4] 0 [(6,.v (.int .i64 (verdict c g))),(5,.v (.slice (some ⟨g29,0,none⟩) 1 1))] ?_
 refine kZ ?_
 exact ⟨(g29),kF 4 0 [4,5,6]⟩
 intro g27
 refine kR ?_
 have hmod : received c g = (({ c with timer := tm }),([⟨c.t.my,c.t.port,nextOf c.s,c.r.next,16,windowOf c.r,⟨0,(-1),false,false,0,0⟩,(⟨#[]⟩ : ByteArray)⟩] : List Seg),(verdict c g)) := by first | (have hv4 : verdict c g = 4 := (by assumption); exact (received_ack hv4 htm).trans (by rw [hv4]; first | done | rfl)) | (have hv3 : verdict c g = 3 := (by assumption); exact (received_chal hv3 htm).trans (by rw [hv3]; first | done | rfl))
 exact ⟨[.agg (conL { c with timer := tm } (.slice v1a c.r.held.length v1c)).toArray,.slice (some ⟨g27,0,none⟩) 1 1,.int .i64 (verdict c g)],by kernel_rfl,fun w' hb hf ha => by rw [hmod]; exact xo2 ((v1a,v1c),(((some ⟨g27,0,none⟩) : Option Addr),1)) rfl rfl (pO (hf _ m2) hB) (pR (hf _ m0) hB) (Apart.sub2 ha (i := 2) (j := 0) rfl rfl (by decide) rfl (fun b h => h) (fun b h => rowF_blk h)) hb⟩
 have h22p := eqF h22
 refine kK ?_
 refine kQ ?_
 refine kCD 2 [3,4,7,8,9,53,54] [(53,.v (.agg (conL c (.slice Acrh c.r.held.length Ccrh)).toArray)),(54,.v (.agg (segL g).toArray))] 137 [.agg (conL c (.slice Acrh c.r.held.length Ccrh)).toArray,.agg (segL g).toArray] (some 55) rfl (xc_r fun ww hw hf => ysHeard_c c (.slice Acrh c.r.held.length Ccrh) g ww (hf _ m2) (by assumption) (by omega) (by assumption) (by omega) w.heap.size hw) ?_
 rintro ⟨v30a,v30c⟩
 have hv5 : verdict c g = 5 := by have := verdict_rng c g; omega
 have hhw := heard_w hv5
 have hz31 := heard_sz (H := 1048576) (T := 1048576) (D := 4611686018427387904) (c := c) (g := g) (by assumption) (by assumption) (by assumption) (by omega) (by omega) (by omega)
 obtain ⟨hz31a,hz31b,hz31c⟩ := hz31
 refine kEU [3,4,7,8,9] [] 3 ⟨34,conL (heard c g) (.slice v30a ((heard c g).r.held.length) v30c)⟩ ?_
 refine kS ?_
 refine kQ ?_
 refine kED [3,4,7,8,9,58] [(58,.v (.bool (((heard c g).state) == 8)))] ?_
 refine kC (((heard c g).state) == 8) (fun h32 => ?_) (fun h32 => ?_)
 have h32p := eqT h32
 refine kQ ?_
 refine kEU [4,5,6] [(5,.v (.slice (some ⟨g2,0,none⟩) 0 0)),(6,.v (.int .i64 (verdict c g)))] 2 ⟨34,conL (heard c g) (.slice v30a ((heard c g).r.held.length) v30c)⟩ ?_
 refine kR ?_
 have hmod : received c g = ((heard c g),([] : List Seg),(verdict c g)) := by first | (simp [received,answered,ackOf, *]; done) | grind [received,answered,ackOf]
 exact ⟨[.agg (conL (heard c g) (.slice v30a ((heard c g).r.held.length) v30c)).toArray,.slice (some ⟨g2,0,none⟩) 0 0,.int .i64 (verdict c g)],by kernel_rfl,fun w' hb hf ha => by rw [hmod]; exact xo2 ((v30a,v30c),(((some ⟨g2,0,none⟩) : Option Addr),0)) rfl rfl (pO (hf _ m0) hB) (pR (hf _ m1) hB) (Apart.sub2 ha (i := 0) (j := 1) rfl rfl (by decide) rfl (fun b h => h) (fun b h => rowF_blk h)) hb⟩
 have h32p := eqF h32
 refine kK ?_
 refine kQ ?_
 refine kCD 1 [3,4,7,9,62] [(62,.v (.agg (conL (heard c g) (.slice v30a ((heard c g).r.held.length) v30c)).toArray))] 72 [.agg (conL (heard c g) (.slice v30a ((heard c g).r.held.length) v30c)).toArray] (some 63) rfl (xc_b fun ww hf => sAckOf_c ((heard c g).t.ip) ((heard c g).t.port) ((heard c g).t.my) ((heard c g).state) ((heard c g).s.una) ((heard c g).s.data) ((heard c g).s.sent) ((heard c g).s.fin) ((heard c g).s.finSent) ((heard c g).s.done) ((heard c g).r.next) ((heard c g).r.data) ((heard c g).r.held) (.slice v30a ((heard c g).r.held.length) v30c) ((heard c g).r.fin) ((heard c g).r.done) ((heard c g).window) ((heard c g).most) ((heard c g).o.mss) ((heard c g).o.scale) ((heard c g).o.sack) ((heard c g).o.stamp) ((heard c g).o.val) ((heard c g).o.echo) ((heard c g).timer) ((heard c g).tries) ww (by omega)) ?_
 intro _
 refine kEA [3,4,7,9,10] [(10,.p 4 0)] [⟨36,[.int .i64 ((heard c g).t.my),.int .i64 ((heard c g).t.port),.int .i64 (nextOf ((heard c g).s)),.int .i64 ((heard c g).r.next),.int .i64 16,.int .i64 (windowOf ((heard c g).r)),.int .i64 0,.int .i64 (-1),.bool false,.bool false,.int .i64 0,.int .i64 0,.string (⟨#[]⟩ : ByteArray)]⟩] ?_
 refine kQ ?_
 refine kCD 3 [3,4,9,10,65,67] [(65,.v (.agg (conL (heard c g) (.slice v30a ((heard c g).r.held.length) v30c)).toArray)),(67,.v (.int .i64 ((heard c g).window)))] 37 [.agg (conL (heard c g) (.slice v30a ((heard c g).r.held.length) v30c)).toArray,.int .i64 ((heard c g).window)] (some 68) rfl (xc_r fun ww hw hf => ysPump_c (heard c g) (.slice v30a ((heard c g).r.held.length) v30c) ((heard c g).window) ww (Own.sl (hf _ m0)) (by assumption) (by assumption) (by omega) (by omega) w.heap.size hw) ?_
 rintro ⟨⟨v33a,v33c⟩,⟨v34a,v34c⟩⟩
 have hbd35 : (pump (heard c g) ((heard c g).window)).1.r.held.length ≤ 1048576 ∧ (pump (heard c g) ((heard c g).window)).2.length ≤ 49 := pump_bd _ _  (by omega)
 have hbd35a := hbd35.1; have hbd35b := hbd35.2
 refine kEA [3,4,9,10,11,12] [(11,.p 5 0),(12,.v (.slice v34a ((pump (heard c g) ((heard c g).window)).2.length) v34c))] [⟨34,conL (pump (heard c g) ((heard c g).window)).1 (.slice v33a ((pump (heard c g) ((heard c g).window)).1.r.held.length) v33c)⟩] ?_
 refine kS ?_
 refine kQ ?_
 refine kCD 1 [4,9,10,11,12,71] [(71,.v (.agg (segL g).toArray))] 40 [.agg (segL g).toArray] (some 72) rfl (xc_b fun ww hf => sSegmentLen_c g.src g.dst g.seq g.ack g.flags g.window g.o.mss g.o.scale g.o.sack g.o.stamp g.o.val g.o.echo g.body ww (by omega)) ?_
 intro _
 refine kRD 2 [4,9,10,11,12,74] [(74,.v (.bool (decide ((segLen g) > 0))))] ?_
 refine kP 74 (decide ((segLen g) > 0)) (fun h36 => ?_) (fun h36 => ?_)
 have h36p := of_decide_eq_true h36
 refine kED [4,9,10,11,12,78] [(78,.v (.bool ((((pump (heard c g) ((heard c g).window)).2.length : Nat) : Int) == 0)))] ?_
 refine kC ((((pump (heard c g) ((heard c g).window)).2.length : Nat) : Int) == 0) (fun h37 => ?_) (fun h37 => ?_)
 have h37p := eqT h37
 refine kG ?_
 refine kHS 2 [4,9,11,12,79,80] [(4,.p 2 0),(9,.v (.int .i64 (verdict c g))),(11,.p 5 0),(12,.v (.slice v34a ((pump (heard c g) ((heard c g).window)).2.length) v34c)),(79,.v (.slice v34a ((pump (heard c g) ((heard c g).window)).2.length) v34c)),(80,.v (.agg #[.int .i64 ((heard c g).t.my),.int .i64 ((heard c g).t.port),.int .i64 (nextOf ((heard c g).s)),.int .i64 ((heard c g).r.next),.int .i64 16,.int .i64 (windowOf ((heard c g).r)),.int .i64 0,.int .i64 (-1),.bool false,.bool false,.int .i64 0,.int .i64 0,.string (⟨#[]⟩ : ByteArray)]))] rfl (hv_build (e := 36) (K := 13) (bytes := 104) [.agg #[.int .i64 ((heard c g).t.my),.int .i64 ((heard c g).t.port),.int .i64 (nextOf ((heard c g).s)),.int .i64 ((heard c g).r.next),.int .i64 16,.int .i64 (windowOf ((heard c g).r)),.int .i64 0,.int .i64 (-1),.bool false,.bool false,.int .i64 0,.int .i64 0,.string (⟨#[]⟩ : ByteArray)]] rfl (by kernel_rfl) (by kernel_rfl) (by kernel_rfl) (by kernel_rfl) (by kernel_rfl) (rs := ([⟨(heard c g).t.my,(heard c g).t.port,nextOf ((heard c g).s),(heard c g).r.next,16,windowOf ((heard c g).r),⟨0,(-1),false,false,0,0⟩,(⟨#[]⟩ : ByteArray)⟩] : List Seg).map segCells) rfl) ?_
 intro g38
 refine kHD 0 [4,9,11,12,79,81] [] rfl (hv_append (e := 36) (K := 13) (bytes := 104) (i := 2) (q := ((pump (heard c g) ((heard c g).window)).2 ++ ([⟨(heard c g).t.my,(heard c g).t.port,nextOf ((heard c g).s),(heard c g).r.next,16,windowOf ((heard c g).r),⟨0,(-1),false,false,0,0⟩,(⟨#[]⟩ : ByteArray)⟩] : List Seg)).length) (new := ([⟨(heard c g).t.my,(heard c g).t.port,nextOf ((heard c g).s),(heard c g).r.next,16,windowOf ((heard c g).r),⟨0,(-1),false,false,0,0⟩,(⟨#[]⟩ : ByteArray)⟩] : List Seg).map segCells) (rs' := ((pump (heard c g) ((heard c g).window)).2 ++ ([⟨(heard c g).t.my,(heard c g).t.port,nextOf ((heard c g).s),(heard c g).r.next,16,windowOf ((heard c g).r),⟨0,(-1),false,false,0,0⟩,(⟨#[]⟩ : ByteArray)⟩] : List Seg)).map segCells) rfl rfl rfl rfl (by kernel_rfl) (by kernel_rfl) (by kernel_rfl) rfl (by simp) (by rw [List.map_append]) (by simp) (fun ww hf => (rowF_sl (hf (rowF w.heap.size 36 13 (.slice (some ⟨g38,0,none⟩) 1 1) (([⟨(heard c g).t.my,(heard c g).t.port,nextOf ((heard c g).s),(heard c g).r.next,16,windowOf ((heard c g).r),⟨0,(-1),false,false,0,0⟩,(⟨#[]⟩ : ByteArray)⟩] : List Seg).map segCells)) (by simp)))) (by intro r hr; obtain ⟨x,hx,rfl⟩ := List.mem_map.1 hr; exact ⟨rfl,by simp [segCells,Value.oneCell']⟩) (by (try simp only [List.length_map,List.length_append,List.length_cons,List.length_nil,List.length_take,List.length_drop,maxLen]); omega) (by (try simp only [List.length_map,List.length_append,List.length_cons,List.length_nil,List.length_take,List.length_drop,maxLen]); omega)) ?_
 rintro ⟨v39a,v39c⟩
 refine kED [4,9,11,12] [(12,.v (.slice v39a (((pump (heard c g) ((heard c g).window)).2 ++ ([⟨(heard c g).t.my,(heard c g).t.port,nextOf ((heard c g).s),(heard c g).r.next,16,windowOf ((heard c g).r),⟨0,(-1),false,false,0,0⟩,(⟨#[]⟩ : ByteArray)⟩] : List Seg)).length) v39c))] ?_
 refine kQ ?_
 refine kEU [4,5,6] [(5,.v (.slice v39a (((pump (heard c g) ((heard c g).window)).2 ++ ([⟨(heard c g).t.my,(heard c g).t.port,nextOf ((heard c g).s),(heard c g).r.next,16,windowOf ((heard c g).r),⟨0,(-1),false,false,0,0⟩,(⟨#[]⟩ : ByteArray)⟩] : List Seg)).length) v39c)),(6,.v (.int .i64 (verdict c g)))] 2 ⟨34,conL (pump (heard c g) ((heard c g).window)).1 (.slice v33a ((pump (heard c g) ((heard c g).window)).1.r.held.length) v33c)⟩ ?_
 refine kR ?_
 have hmod : received c g = (((pump (heard c g) ((heard c g).window)).1),((pump (heard c g) ((heard c g).window)).2 ++ ([⟨(heard c g).t.my,(heard c g).t.port,nextOf ((heard c g).s),(heard c g).r.next,16,windowOf ((heard c g).r),⟨0,(-1),false,false,0,0⟩,(⟨#[]⟩ : ByteArray)⟩] : List Seg)),(verdict c g)) := by first | (simp [received,answered,ackOf, *]; done) | grind [received,answered,ackOf]
 exact ⟨[.agg (conL (pump (heard c g) ((heard c g).window)).1 (.slice v33a ((pump (heard c g) ((heard c g).window)).1.r.held.length) v33c)).toArray,.slice v39a (((pump (heard c g) ((heard c g).window)).2 ++ ([⟨(heard c g).t.my,(heard c g).t.port,nextOf ((heard c g).s),(heard c g).r.next,16,windowOf ((heard c g).r),⟨0,(-1),false,false,0,0⟩,(⟨#[]⟩ : ByteArray)⟩] : List Seg)).length) v39c,.int .i64 (verdict c g)],by kernel_rfl,fun w' hb hf ha => by rw [hmod]; exact xo2 ((v33a,v33c),(v39a,v39c)) rfl rfl (pO (hf _ m2) hB) (pR (hf _ m0) hB) (Apart.sub2 ha (i := 2) (j := 0) rfl rfl (by decide) rfl (fun b h => h) (fun b h => rowF_blk h)) hb⟩
 have h37p := eqF h37
 refine kK ?_
 refine kQ ?_
 refine kEF [4,5,6] ⟨[(4,.p 2 0),(5,.v (.slice v34a ((pump (heard c g) ((heard c g).window)).2.length) v34c)),(6,.v (.int .i64 (verdict c g)))],[⟨34,conL c (.slice Acrh c.r.held.length Ccrh)⟩,⟨36,segL g⟩,⟨34,conL (pump (heard c g) ((heard c g).window)).1 (.slice v33a ((pump (heard c g) ((heard c g).window)).1.r.held.length) v33c)⟩,⟨34,conL (heard c g) (.slice v30a ((heard c g).r.held.length) v30c)⟩,⟨36,[.int .i64 ((heard c g).t.my),.int .i64 ((heard c g).t.port),.int .i64 (nextOf ((heard c g).s)),.int .i64 ((heard c g).r.next),.int .i64 16,.int .i64 (windowOf ((heard c g).r)),.int .i64 0,.int .i64 (-1),.bool false,.bool false,.int .i64 0,.int .i64 0,.string (⟨#[]⟩ : ByteArray)]⟩,⟨34,conL (pump (heard c g) ((heard c g).window)).1 (.slice v33a ((pump (heard c g) ((heard c g).window)).1.r.held.length) v33c)⟩],[],[ownF w.heap.size (.slice v33a ((pump (heard c g) ((heard c g).window)).1.r.held.length) v33c) 2 ((pump (heard c g) ((heard c g).window)).1.r.held.map pceCells),rowF w.heap.size 36 13 (.slice v34a ((pump (heard c g) ((heard c g).window)).2.length) v34c) ((pump (heard c g) ((heard c g).window)).2.map segCells),ownF w.heap.size (.slice v30a ((heard c g).r.held.length) v30c) 2 ((heard c g).r.held.map pceCells),rowF w.heap.size 36 13 (.slice (some ⟨g2,0,none⟩) 0 0) (([] : List Seg).map segCells),ownF w.heap.size (.slice v1a c.r.held.length v1c) 2 (c.r.held.map pceCells),slF (.slice Acrh c.r.held.length Ccrh) 2 (c.r.held.map pceCells)]⟩ ?_
 refine kR ?_
 have hmod : received c g = (((pump (heard c g) ((heard c g).window)).1),((pump (heard c g) ((heard c g).window)).2),(verdict c g)) := by first | (simp [received,answered,ackOf, *]; done) | grind [received,answered,ackOf]
 exact ⟨[.agg (conL (pump (heard c g) ((heard c g).window)).1 (.slice v33a ((pump (heard c g) ((heard c g).window)).1.r.held.length) v33c)).toArray,.slice v34a ((pump (heard c g) ((heard c g).window)).2.length) v34c,.int .i64 (verdict c g)],by kernel_rfl,fun w' hb hf ha => by rw [hmod]; exact xo2 ((v33a,v33c),(v34a,v34c)) rfl rfl (pO (hf _ m0) hB) (pR (hf _ m1) hB) (Apart.sub2 ha (i := 0) (j := 1) rfl rfl (by decide) rfl (fun b h => h) (fun b h => rowF_blk h)) hb⟩
 have h36p := of_decide_eq_false h36
 refine kED [4,9,10,11,12,78] [(78,.v (.bool false))] ?_
 refine kN ?_
 refine kK ?_
 refine kQ ?_
 refine kEF [4,5,6] ⟨[(4,.p 2 0),(5,.v (.slice v34a ((pump (heard c g) ((heard c g).window)).2.length) v34c)),(6,.v (.int .i64 (verdict c g)))],[⟨34,conL c (.slice Acrh c.r.held.length Ccrh)⟩,⟨36,segL g⟩,⟨34,conL (pump (heard c g) ((heard c g).window)).1 (.slice v33a ((pump (heard c g) ((heard c g).window)).1.r.held.length) v33c)⟩,⟨34,conL (heard c g) (.slice v30a ((heard c g).r.held.length) v30c)⟩,⟨36,[.int .i64 ((heard c g).t.my),.int .i64 ((heard c g).t.port),.int .i64 (nextOf ((heard c g).s)),.int .i64 ((heard c g).r.next),.int .i64 16,.int .i64 (windowOf ((heard c g).r)),.int .i64 0,.int .i64 (-1),.bool false,.bool false,.int .i64 0,.int .i64 0,.string (⟨#[]⟩ : ByteArray)]⟩,⟨34,conL (pump (heard c g) ((heard c g).window)).1 (.slice v33a ((pump (heard c g) ((heard c g).window)).1.r.held.length) v33c)⟩],[],[ownF w.heap.size (.slice v33a ((pump (heard c g) ((heard c g).window)).1.r.held.length) v33c) 2 ((pump (heard c g) ((heard c g).window)).1.r.held.map pceCells),rowF w.heap.size 36 13 (.slice v34a ((pump (heard c g) ((heard c g).window)).2.length) v34c) ((pump (heard c g) ((heard c g).window)).2.map segCells),ownF w.heap.size (.slice v30a ((heard c g).r.held.length) v30c) 2 ((heard c g).r.held.map pceCells),rowF w.heap.size 36 13 (.slice (some ⟨g2,0,none⟩) 0 0) (([] : List Seg).map segCells),ownF w.heap.size (.slice v1a c.r.held.length v1c) 2 (c.r.held.map pceCells),slF (.slice Acrh c.r.held.length Ccrh) 2 (c.r.held.map pceCells)]⟩ ?_
 refine kR ?_
 have hmod : received c g = (((pump (heard c g) ((heard c g).window)).1),((pump (heard c g) ((heard c g).window)).2),(verdict c g)) := by first | (simp [received,answered,ackOf, *]; done) | grind [received,answered,ackOf]
 exact ⟨[.agg (conL (pump (heard c g) ((heard c g).window)).1 (.slice v33a ((pump (heard c g) ((heard c g).window)).1.r.held.length) v33c)).toArray,.slice v34a ((pump (heard c g) ((heard c g).window)).2.length) v34c,.int .i64 (verdict c g)],by kernel_rfl,fun w' hb hf ha => by rw [hmod]; exact xo2 ((v33a,v33c),(v34a,v34c)) rfl rfl (pO (hf _ m0) hB) (pR (hf _ m1) hB) (Apart.sub2 ha (i := 0) (j := 1) rfl rfl (by decide) rfl (fun b h => h) (fun b h => rowF_blk h)) hb⟩
theorem l1New_c (code : List Int) (A : Option Addr) (cap : Nat) (w : World) (hl : Sl w (.slice A code.length cap) 1 (code.map byteRow)) (hn : code.length ≤ 1048576) : Calls Tryz.prog 62 #[.slice A code.length cap] w fun e w' => ∃ y : {g : Nat // ¬ (slF (.slice A code.length cap) 1 (code.map byteRow)).blk g}, e = .returned (.pointer (some ⟨y.1, 0, none⟩)) ∧ (curF w.heap.size y.1 100 (.slice A code.length cap) code.length).p w' ∧ Below w.heap.size w w' := by
 have hq_code := Sl.capLe hl
 refine x_calls (args := [.slice A code.length cap]) (fn := Tryz.f62) [slF (.slice A code.length cap) 1 (code.map byteRow)] Tryz.func62 rfl Tryz.ntmps62 rfl (by simp only [List.mem_cons,List.not_mem_nil,or_false,forall_eq]; exact ⟨rfl,hl⟩) ?_
 refine kQ ?_
 refine kEF [0] ⟨[(0,.v (.slice A code.length cap))],[],[],[slF (.slice A code.length cap) 1 (code.map byteRow)]⟩ ?_
 refine kQ ?_
 refine kED [0,3] [(3,.v (.int .i64 (IntKind.i64.wrap (28655 + ((code.length : Nat) : Int)))))] ?_
 refine kS ?_
 refine kQ ?_
 refine kED [0,3,4] [(4,.v (.int .i64 0))] ?_
 refine xw_block ?_
 refine xw_loopW (α := {x : Nat × Int // (fun (i : Nat) (h : Int) => i ≤ code.length) x.1 x.2}) (fun x => (fun (i : Nat) (h : Int) => (⟨[(0,.v (.slice A code.length cap)),(3,.v (.int .i64 h)),(4,.v (.int .i64 (i : Int)))],[],[],[slF (.slice A code.length cap) 1 (code.map byteRow)]⟩ : St)) x.1.1 x.1.2) (fun x => (fun (i : Nat) (h : Int) => code.length - i) x.1.1 x.1.2) ⟨(0,IntKind.i64.wrap (28655 + ((code.length : Nat) : Int))),Nat.zero_le _⟩ (kF 0 0 [0,3,4]) ?_
 rintro ⟨⟨i,h⟩,hi⟩
 try dsimp only
 try dsimp only at hi
 refine kS ?_
 refine kQ ?_
 refine kRD 5 [0,3,4,12] [(12,.v (.bool (decide ((i : Int) < ((code.length : Nat) : Int)))))] ?_
 refine kP 12 (decide ((i : Int) < ((code.length : Nat) : Int))) (fun h1 => ?_) (fun h1 => ?_)
 have h1p := of_decide_eq_true h1
 have hlt : i < code.length := by simpa using h1
 obtain ⟨z,hz⟩ : ∃ z,code[i]? = some z := ⟨_,List.getElem?_eq_getElem hlt⟩
 refine kED [0,3,4,15] [(15,.v (.bool (decide ((i : Int) < 4000))))] ?_
 refine kC (decide ((i : Int) < 4000)) (fun h2 => ?_) (fun h2 => ?_)
 have h2p := of_decide_eq_true h2
 refine kK ?_
 refine kS ?_
 refine xw_block ?_
 refine kG ?_
 refine xl_indexD (kd := .i64) (T := 22) (e := 5) (K := 1) 4 [0,3,4,19,20,21] [(19,.v (.int .i64 (IntKind.i64.wrap (h * 131)))),(20,.v (.slice A code.length cap)),(21,.v (.int .i64 (i : Int)))] i [.int .u8 z] (slF (.slice A code.length cap) 1 (code.map byteRow)) (by kernel_rfl) rfl (by kernel_rfl) rfl rfl (by kernel_rfl) (by kernel_rfl) (by kernel_rfl) (by kernel_rfl) hlt (by simp) (fun w h => h) (fun b h => h) (by simp only [List.getElem?_map,hz]; rfl) ?_
 refine kED [0,3,4] [(3,.v (.int .i64 (IntKind.i64.wrap (BitVec.ofInt 64 (IntKind.i64.wrap ((IntKind.i64.wrap ((IntKind.i64.wrap (h * 131)) + (IntKind.i64.wrap z))) + 7)) &&& BitVec.ofInt 64 1073741823).toNat)))] ?_
 refine kG ?_
 refine kRS 3 [0,3,4] [(0,.v (.slice A code.length cap)),(3,.v (.int .i64 (IntKind.i64.wrap (BitVec.ofInt 64 (IntKind.i64.wrap ((IntKind.i64.wrap ((IntKind.i64.wrap (h * 131)) + (IntKind.i64.wrap z))) + 7)) &&& BitVec.ofInt 64 1073741823).toNat))),(4,.v (.int .i64 (IntKind.i64.wrap ((i : Int) + 1))))] ?_
 refine xl_eqS (t' := [(0,.v (.slice A code.length cap)),(3,.v (.int .i64 (IntKind.i64.wrap (BitVec.ofInt 64 (IntKind.i64.wrap ((IntKind.i64.wrap ((IntKind.i64.wrap (h * 131)) + (IntKind.i64.wrap z))) + 7)) &&& BitVec.ofInt 64 1073741823).toNat))),(4,.v (.int .i64 ((i : Int) + 1)))]) (by rw [show (IntKind.i64.wrap ((i : Int) + 1)) = ((i : Int) + 1) from wrap_id (by omega) (by omega)]) ?_
 refine kED [0,3,4] [] ?_
 exact ⟨⟨(i + 1,IntKind.i64.wrap (BitVec.ofInt 64 (IntKind.i64.wrap ((IntKind.i64.wrap ((IntKind.i64.wrap (h * 131)) + (IntKind.i64.wrap z))) + 7)) &&& BitVec.ofInt 64 1073741823).toNat),hlt⟩,kF 0 0 [0,3,4],by show (fun (i : Nat) (h : Int) => code.length - i) (i + 1) (IntKind.i64.wrap (BitVec.ofInt 64 (IntKind.i64.wrap ((IntKind.i64.wrap ((IntKind.i64.wrap (h * 131)) + (IntKind.i64.wrap z))) + 7)) &&& BitVec.ofInt 64 1073741823).toNat) < code.length - i; (dsimp only; omega)⟩
 have h2p := of_decide_eq_false h2
 refine xw_exit ?_
 refine kQ ?_
 refine kOS 2 [28,29] [(28,.v (.slice A code.length cap)),(29,.v (.int .i64 h))] (.agg #[.slice A code.length cap,.int .i64 0,.int .i64 h]) rfl (fun _ _ _ ww hr => act_build [(0,.slice A code.length cap),(2,.int .i64 h)] hr.1 rfl (by kernel_rfl) (by kernel_rfl) ww) ?_
 refine kEA [2] [(2,.p 0 0)] [⟨100,[.slice A code.length cap,.int .i64 0,.int .i64 h]⟩] ?_
 refine xw_pin ?_
 intro g hg hgn
 refine kR ?_
 exact ⟨[.pointer (some ⟨g,0,none⟩)],by kernel_rfl,fun w' hb hf => ⟨⟨g,hgn _ (by simp)⟩,rfl,⟨hg,0,h,Nat.zero_le _,(hf (cellF w.heap.size g 100 [.slice A code.length cap,.int .i64 0,.int .i64 h]) (by simp)).2⟩,hb⟩⟩
 have h1p := of_decide_eq_false h1
 refine kED [0,3,4,15] [(15,.v (.bool false))] ?_
 refine kN ?_
 refine xw_exit ?_
 refine kQ ?_
 refine kOS 2 [28,29] [(28,.v (.slice A code.length cap)),(29,.v (.int .i64 h))] (.agg #[.slice A code.length cap,.int .i64 0,.int .i64 h]) rfl (fun _ _ _ ww hr => act_build [(0,.slice A code.length cap),(2,.int .i64 h)] hr.1 rfl (by kernel_rfl) (by kernel_rfl) ww) ?_
 refine kEA [2] [(2,.p 0 0)] [⟨100,[.slice A code.length cap,.int .i64 0,.int .i64 h]⟩] ?_
 refine xw_pin ?_
 intro g hg hgn
 refine kR ?_
 exact ⟨[.pointer (some ⟨g,0,none⟩)],by kernel_rfl,fun w' hb hf => ⟨⟨g,hgn _ (by simp)⟩,rfl,⟨hg,0,h,Nat.zero_le _,(hf (cellF w.heap.size g 100 [.slice A code.length cap,.int .i64 0,.int .i64 h]) (by simp)).2⟩,hb⟩⟩
theorem l1Byte_c (g : Nat) (code : List Int) (A : Option Addr) (cap : Nat)  (w : World) (B : Nat) (hB : B ≤ w.heap.size) (hc : (curF B g 100 (.slice A code.length cap) code.length).p w) (hl : Sl w (.slice A code.length cap) 1 (code.map byteRow)) (hap : ¬ (slF (.slice A code.length cap) 1 (code.map byteRow)).blk g) (hn : code.length ≤ 1048576)  : Calls Tryz.prog 118 #[.pointer (some ⟨g, 0, none⟩)] w fun e w' => ∃ y : {y : Int // 0 ≤ y ∧ y ≤ 255}, e = .returned (.int .i64 y.1) ∧ (curF B g 100 (.slice A code.length cap) code.length).p w' ∧ Chgd (fun b => b = g) w w' := by
 have hq_code := Sl.capLe hl
 obtain ⟨hBg,i,h,hi,hg⟩ := hc
 refine x_callsM (args := [.pointer (some ⟨g,0,none⟩)]) (fn := Tryz.f118) [cellF B g 100 [.slice A code.length cap,.int .i64 (i : Int),.int .i64 h],slF (.slice A code.length cap) 1 (code.map byteRow),frF w (fun b => b = g)] B Tryz.func118 rfl Tryz.ntmps118 rfl hB (by simp only [List.mem_cons,List.not_mem_nil,or_false,forall_eq_or_imp,forall_eq]; exact ⟨⟨hBg,hg⟩,hl,frF_start w _⟩) (apart_cell hap rfl) ?_
 refine kQ ?_
 refine kEF [0] ⟨[(0,.v (.pointer (some ⟨g,0,none⟩)))],[],[],[cellF B g 100 [.slice A code.length cap,.int .i64 (i : Int),.int .i64 h],slF (.slice A code.length cap) 1 (code.map byteRow),frF w (fun b => b = g)]⟩ ?_
 refine kQ ?_
 refine kOD 2 [0,4,5] [(4,.v (.pointer (some ⟨g,0,none⟩))),(5,.v (.pointer (some ⟨g,0,none⟩)))] (.pointer (some ⟨g,0,none⟩)) rfl (fun _ _ _ ww hr => act_nil (b := g) (m := 0) hr.1 rfl (by kernel_rfl) ww) ?_
 refine kOD 0 [0,4,6] [] (.pointer (some ⟨g,2,none⟩)) rfl (fun _ _ _ ww hr => act_fld (sz := 1) (b := g) (m := 0) hr.1 rfl Tryz.underlying100 rfl (by kernel_rfl) rfl (by kernel_rfl) rfl) ?_
 refine kOD 0 [0,4,7] [] (.int .i64 h) rfl (fun _ _ _ ww hr => ldP_run (off := 2) (B := B) (g := g) (T := 100) (cs := [.slice A code.length cap,.int .i64 (i : Int),.int .i64 h]) hr rfl (by kernel_rfl) (by simp) (by kernel_rfl)) ?_
 refine kOD 2 [0,4,10] [(10,.v (.int .i64 (IntKind.i64.wrap ((IntKind.i64.wrap (h * 6364136223846793005)) + 1442695040888963407))))] (.pointer (some ⟨g,0,none⟩)) rfl (fun _ _ _ ww hr => act_nil (b := g) (m := 0) hr.1 rfl (by kernel_rfl) ww) ?_
 refine kOD 0 [0,10,11] [] (.pointer (some ⟨g,2,none⟩)) rfl (fun _ _ _ ww hr => act_fld (sz := 1) (b := g) (m := 0) hr.1 rfl Tryz.underlying100 rfl (by kernel_rfl) rfl (by kernel_rfl) rfl) ?_
 refine xl_hs 0 [0,10,12] ⟨[(0,.v (.pointer (some ⟨g,0,none⟩))),(10,.v (.int .i64 (IntKind.i64.wrap ((IntKind.i64.wrap (h * 6364136223846793005)) + 1442695040888963407)))),(12,.v (.pointer (some ⟨g,2,none⟩)))],[],[],[cellF B g 100 [.slice A code.length cap,.int .i64 (i : Int),.int .i64 h],slF (.slice A code.length cap) 1 (code.map byteRow),frF w (fun b => b = g)]⟩ (by kernel_rfl) rfl (by kernel_rfl) rfl (by kernel_rfl) (hs_stP (g := g) (T := 100) (off := 2) (v := (.int .i64 (IntKind.i64.wrap ((IntKind.i64.wrap (h * 6364136223846793005)) + 1442695040888963407)))) (i := 0) (B := B) (cs := [.slice A code.length cap,.int .i64 (i : Int),.int .i64 h]) [.int .i64 (IntKind.i64.wrap ((IntKind.i64.wrap (h * 6364136223846793005)) + 1442695040888963407))] (cs' := [.slice A code.length cap,.int .i64 (i : Int),.int .i64 (IntKind.i64.wrap ((IntKind.i64.wrap (h * 6364136223846793005)) + 1442695040888963407))]) rfl (by kernel_rfl) (by kernel_rfl) rfl (by kernel_rfl) rfl (by kernel_rfl) rfl rfl (cutW_le w B)) ?_
 refine kED [0] [] ?_
 refine kS ?_
 refine xws_start ?_
 refine xws_cell (B := B) (g := g) (T := 100) (cs := [.slice A code.length cap,.int .i64 (i : Int),.int .i64 (IntKind.i64.wrap ((IntKind.i64.wrap (h * 6364136223846793005)) + 1442695040888963407))]) (fun _ _ h => h) (by simp) ?_
 refine xws_regionE [] (by kernel_rfl) (fun ρ σ hq1 => ?_)
 refine kTD [0,5] [18,13,0] 11 [(18,.v (.pointer (some ⟨g,0,none⟩))),(13,.v (.pointer (some ⟨g,0,none⟩)))] ?_
 refine kX 1 (.pointer (some ⟨g,0,none⟩)) rfl (fun _ _ ww hA => act_nil (b := g) (m := 0) hA rfl (by kernel_rfl) ww) ?_
 refine kX 2 (.pointer (some ⟨g,2,none⟩)) rfl (fun _ _ ww hA => act_fld (sz := 1) (b := g) (m := 0) hA rfl Tryz.underlying100 rfl (by kernel_rfl) rfl (by kernel_rfl) rfl) ?_
 refine xe_opH 3 (.int .i64 (IntKind.i64.wrap ((IntKind.i64.wrap (h * 6364136223846793005)) + 1442695040888963407))) _ rfl (by kernel_rfl) (by kernel_rfl) (by kernel_rfl) (fun _ _ h => h) (by kernel_rfl) rfl (fun _ _ ww hA hS => ld_range (g := g) (off := 2) (cs := [.slice A code.length cap,.int .i64 (i : Int),.int .i64 (IntKind.i64.wrap ((IntKind.i64.wrap (h * 6364136223846793005)) + 1442695040888963407))]) hA rfl (by kernel_rfl) (rd_row hS (h := 0) rfl hq1.2) (by kernel_rfl)) rfl ?_
 refine kX 4 (.int .i64 (Int.fdiv (IntKind.i64.wrap ((IntKind.i64.wrap (h * 6364136223846793005)) + 1442695040888963407)) (2 ^ (33 : Int).toNat))) rfl (fun _ _ ww hA => act_bin hA rfl (by kernel_rfl) (by kernel_rfl) (shr_run (k' := .u64) (by decide) (by decide) ww)) ?_
 refine kX 6 (.pointer (some ⟨g,0,none⟩)) rfl (fun _ _ ww hA => act_nil (b := g) (m := 0) hA rfl (by kernel_rfl) ww) ?_
 refine kX 7 (.pointer (some ⟨g,2,none⟩)) rfl (fun _ _ ww hA => act_fld (sz := 1) (b := g) (m := 0) hA rfl Tryz.underlying100 rfl (by kernel_rfl) rfl (by kernel_rfl) rfl) ?_
 refine xe_opH 8 (.int .i64 (IntKind.i64.wrap ((IntKind.i64.wrap (h * 6364136223846793005)) + 1442695040888963407))) _ rfl (by kernel_rfl) (by kernel_rfl) (by kernel_rfl) (fun _ _ h => h) (by kernel_rfl) rfl (fun _ _ ww hA hS => ld_range (g := g) (off := 2) (cs := [.slice A code.length cap,.int .i64 (i : Int),.int .i64 (IntKind.i64.wrap ((IntKind.i64.wrap (h * 6364136223846793005)) + 1442695040888963407))]) hA rfl (by kernel_rfl) (rd_row hS (h := 0) rfl hq1.2) (by kernel_rfl)) rfl ?_
 refine kX 9 (.int .i64 (Int.fdiv (IntKind.i64.wrap ((IntKind.i64.wrap (h * 6364136223846793005)) + 1442695040888963407)) (2 ^ (45 : Int).toNat))) rfl (fun _ _ ww hA => act_bin hA rfl (by kernel_rfl) (by kernel_rfl) (shr_run (k' := .u64) (by decide) (by decide) ww)) ?_
 refine kX 10 (.int .i64 (IntKind.i64.wrap (BitVec.ofInt 64 (Int.fdiv (IntKind.i64.wrap ((IntKind.i64.wrap (h * 6364136223846793005)) + 1442695040888963407)) (2 ^ (33 : Int).toNat)) ^^^ BitVec.ofInt 64 (Int.fdiv (IntKind.i64.wrap ((IntKind.i64.wrap (h * 6364136223846793005)) + 1442695040888963407)) (2 ^ (45 : Int).toNat))).toNat)) rfl (fun _ _ ww hA => act_bin hA rfl (by kernel_rfl) (by kernel_rfl) (xor_run ww)) ?_
 refine kTD [11,12] [3,0] 0 [(3,.v (.int .i64 (IntKind.i64.wrap (BitVec.ofInt 64 (IntKind.i64.wrap (BitVec.ofInt 64 (Int.fdiv (IntKind.i64.wrap ((IntKind.i64.wrap (h * 6364136223846793005)) + 1442695040888963407)) (2 ^ (33 : Int).toNat)) ^^^ BitVec.ofInt 64 (Int.fdiv (IntKind.i64.wrap ((IntKind.i64.wrap (h * 6364136223846793005)) + 1442695040888963407)) (2 ^ (45 : Int).toNat))).toNat) &&& BitVec.ofInt 64 255).toNat)))] ?_
 refine kZ ?_
 refine kS ?_
 refine kS ?_
 refine xw_wk (wkf (s' := ⟨[(3,.v (.int .i64 (IntKind.i64.wrap (BitVec.ofInt 64 (IntKind.i64.wrap (BitVec.ofInt 64 (Int.fdiv (IntKind.i64.wrap ((IntKind.i64.wrap (h * 6364136223846793005)) + 1442695040888963407)) (2 ^ (33 : Int).toNat)) ^^^ BitVec.ofInt 64 (Int.fdiv (IntKind.i64.wrap ((IntKind.i64.wrap (h * 6364136223846793005)) + 1442695040888963407)) (2 ^ (45 : Int).toNat))).toNat) &&& BitVec.ofInt 64 255).toNat))),(0,.v (.pointer (some ⟨g,0,none⟩)))],[],[],[cellF B g 100 [.slice A code.length cap,.int .i64 (i : Int),.int .i64 (IntKind.i64.wrap ((IntKind.i64.wrap (h * 6364136223846793005)) + 1442695040888963407))],slF (.slice A code.length cap) 1 (code.map byteRow),frF w (fun b => b = g)]⟩) 0 0 [3,0] (by kernel_rfl)) ?_
 refine xws_start ?_
 refine xws_cell (B := B) (g := g) (T := 100) (cs := [.slice A code.length cap,.int .i64 (i : Int),.int .i64 (IntKind.i64.wrap ((IntKind.i64.wrap (h * 6364136223846793005)) + 1442695040888963407))]) (fun _ _ h => h) (by simp) ?_
 refine xws_regionE [] (by kernel_rfl) (fun ρ σ hq2 => ?_)
 refine kTD [0,4] [29,25,3,0] 8 [(29,.v (.pointer (some ⟨g,0,none⟩))),(25,.v (.pointer (some ⟨g,0,none⟩)))] ?_
 refine kX 1 (.pointer (some ⟨g,0,none⟩)) rfl (fun _ _ ww hA => act_nil (b := g) (m := 0) hA rfl (by kernel_rfl) ww) ?_
 refine kX 2 (.pointer (some ⟨g,1,none⟩)) rfl (fun _ _ ww hA => act_fld (sz := 1) (b := g) (m := 0) hA rfl Tryz.underlying100 rfl (by kernel_rfl) rfl (by kernel_rfl) rfl) ?_
 refine xe_opH 3 (.int .i64 (i : Int)) _ rfl (by kernel_rfl) (by kernel_rfl) (by kernel_rfl) (fun _ _ h => h) (by kernel_rfl) rfl (fun _ _ ww hA hS => ld_range (g := g) (off := 1) (cs := [.slice A code.length cap,.int .i64 (i : Int),.int .i64 (IntKind.i64.wrap ((IntKind.i64.wrap (h * 6364136223846793005)) + 1442695040888963407))]) hA rfl (by kernel_rfl) (rd_row hS (h := 0) rfl hq2.2) (by kernel_rfl)) rfl ?_
 refine kX 5 (.pointer (some ⟨g,0,none⟩)) rfl (fun _ _ ww hA => act_nil (b := g) (m := 0) hA rfl (by kernel_rfl) ww) ?_
 refine kX 6 (.pointer (some ⟨g,0,none⟩)) rfl (fun _ _ ww hA => act_fld (sz := 1) (b := g) (m := 0) hA rfl Tryz.underlying100 rfl (by kernel_rfl) rfl (by kernel_rfl) rfl) ?_
 refine xe_opH 7 (.slice A code.length cap) _ rfl (by kernel_rfl) (by kernel_rfl) (by kernel_rfl) (fun _ _ h => h) (by kernel_rfl) rfl (fun _ _ ww hA hS => ld_range (g := g) (off := 0) (cs := [.slice A code.length cap,.int .i64 (i : Int),.int .i64 (IntKind.i64.wrap ((IntKind.i64.wrap (h * 6364136223846793005)) + 1442695040888963407))]) hA rfl (by kernel_rfl) (rd_row hS (h := 0) rfl hq2.2) (by kernel_rfl)) rfl ?_
 refine kTD [8,9] [34,3,0] 0 [(34,.v (.bool (decide ((i : Int) < ((code.length : Nat) : Int)))))] ?_
 refine kZ ?_
 refine kC (decide ((i : Int) < ((code.length : Nat) : Int))) (fun h3 => ?_) (fun h3 => ?_)
 have h3p := of_decide_eq_true h3
 have hlt : i < code.length := by simpa using h3
 obtain ⟨z,hz⟩ : ∃ z,code[i]? = some z := ⟨_,List.getElem?_eq_getElem hlt⟩
 refine kS ?_
 refine xw_wk (wkf (s' := ⟨[(34,.v (.bool (decide ((i : Int) < ((code.length : Nat) : Int))))),(3,.v (.int .i64 (IntKind.i64.wrap (BitVec.ofInt 64 (IntKind.i64.wrap (BitVec.ofInt 64 (Int.fdiv (IntKind.i64.wrap ((IntKind.i64.wrap (h * 6364136223846793005)) + 1442695040888963407)) (2 ^ (33 : Int).toNat)) ^^^ BitVec.ofInt 64 (Int.fdiv (IntKind.i64.wrap ((IntKind.i64.wrap (h * 6364136223846793005)) + 1442695040888963407)) (2 ^ (45 : Int).toNat))).toNat) &&& BitVec.ofInt 64 255).toNat))),(0,.v (.pointer (some ⟨g,0,none⟩)))],[],[],[cellF B g 100 [.slice A code.length cap,.int .i64 (i : Int),.int .i64 (IntKind.i64.wrap ((IntKind.i64.wrap (h * 6364136223846793005)) + 1442695040888963407))],slF (.slice A code.length cap) 1 (code.map byteRow),frF w (fun b => b = g)]⟩) 0 0 [34,3,0] (by kernel_rfl)) ?_
 refine xws_start ?_
 refine xws_row (K := 1) (j := i) [.int .u8 z] (slF (.slice A code.length cap) 1 (code.map byteRow)) (fun _ _ h => h) (by simp) (fun w h => h) (fun b h => h) (by simp only [List.getElem?_map,hz]; rfl) (fun bq4 offq4 hAq4 => ?_)
 refine xws_cell (B := B) (g := g) (T := 100) (cs := [.slice A code.length cap,.int .i64 (i : Int),.int .i64 (IntKind.i64.wrap ((IntKind.i64.wrap (h * 6364136223846793005)) + 1442695040888963407))]) (fun _ _ h => h) (by simp) ?_
 refine xws_regionE [] (by kernel_rfl) (fun ρ σ hq5 => ?_)
 refine kTS [0,1,5] [40,36,35,3,0] 12 [(40,.v (.pointer (some ⟨g,0,none⟩))),(36,.v (.pointer (some ⟨g,0,none⟩))),(35,.v (.int .i64 (IntKind.i64.wrap (BitVec.ofInt 64 (IntKind.i64.wrap (BitVec.ofInt 64 (Int.fdiv (IntKind.i64.wrap ((IntKind.i64.wrap (h * 6364136223846793005)) + 1442695040888963407)) (2 ^ (33 : Int).toNat)) ^^^ BitVec.ofInt 64 (Int.fdiv (IntKind.i64.wrap ((IntKind.i64.wrap (h * 6364136223846793005)) + 1442695040888963407)) (2 ^ (45 : Int).toNat))).toNat) &&& BitVec.ofInt 64 255).toNat))),(3,.v (.int .i64 (IntKind.i64.wrap (BitVec.ofInt 64 (IntKind.i64.wrap (BitVec.ofInt 64 (Int.fdiv (IntKind.i64.wrap ((IntKind.i64.wrap (h * 6364136223846793005)) + 1442695040888963407)) (2 ^ (33 : Int).toNat)) ^^^ BitVec.ofInt 64 (Int.fdiv (IntKind.i64.wrap ((IntKind.i64.wrap (h * 6364136223846793005)) + 1442695040888963407)) (2 ^ (45 : Int).toNat))).toNat) &&& BitVec.ofInt 64 255).toNat))),(0,.v (.pointer (some ⟨g,0,none⟩)))] ?_
 refine kX 2 (.pointer (some ⟨g,0,none⟩)) rfl (fun _ _ ww hA => act_nil (b := g) (m := 0) hA rfl (by kernel_rfl) ww) ?_
 refine kX 3 (.pointer (some ⟨g,0,none⟩)) rfl (fun _ _ ww hA => act_fld (sz := 1) (b := g) (m := 0) hA rfl Tryz.underlying100 rfl (by kernel_rfl) rfl (by kernel_rfl) rfl) ?_
 refine xe_opH 4 (.slice A code.length cap) _ rfl (by kernel_rfl) (by kernel_rfl) (by kernel_rfl) (fun _ _ h => h) (by kernel_rfl) rfl (fun _ _ ww hA hS => ld_range (g := g) (off := 0) (cs := [.slice A code.length cap,.int .i64 (i : Int),.int .i64 (IntKind.i64.wrap ((IntKind.i64.wrap (h * 6364136223846793005)) + 1442695040888963407))]) hA rfl (by kernel_rfl) (rd_row hS (h := 1) rfl hq5.2) (by kernel_rfl)) rfl ?_
 refine kX 6 (.pointer (some ⟨g,0,none⟩)) rfl (fun _ _ ww hA => act_nil (b := g) (m := 0) hA rfl (by kernel_rfl) ww) ?_
 refine kX 7 (.pointer (some ⟨g,1,none⟩)) rfl (fun _ _ ww hA => act_fld (sz := 1) (b := g) (m := 0) hA rfl Tryz.underlying100 rfl (by kernel_rfl) rfl (by kernel_rfl) rfl) ?_
 refine xe_opH 8 (.int .i64 (i : Int)) _ rfl (by kernel_rfl) (by kernel_rfl) (by kernel_rfl) (fun _ _ h => h) (by kernel_rfl) rfl (fun _ _ ww hA hS => ld_range (g := g) (off := 1) (cs := [.slice A code.length cap,.int .i64 (i : Int),.int .i64 (IntKind.i64.wrap ((IntKind.i64.wrap (h * 6364136223846793005)) + 1442695040888963407))]) hA rfl (by kernel_rfl) (rd_row hS (h := 1) rfl hq5.2) (by kernel_rfl)) rfl ?_
 refine xe_takeI (kd := .i64) (T := 22) (e := 5) (K := 1) (j := i) (A := A) (len := code.length) (cap := cap) 9 0 _ rfl (by kernel_rfl) (by kernel_rfl) (by kernel_rfl) (fun _ _ h => h) (by kernel_rfl) rfl rfl (by kernel_rfl) (by kernel_rfl) (by kernel_rfl) (by kernel_rfl) hlt hAq4 hq5.1.2 (by kernel_rfl) rfl ?_
 refine kTD [10,11,12,13,14] [3,0] 0 [(3,.v (.int .i64 (IntKind.i64.wrap (BitVec.ofInt 64 (IntKind.i64.wrap ((IntKind.i64.wrap (BitVec.ofInt 64 (IntKind.i64.wrap (BitVec.ofInt 64 (Int.fdiv (IntKind.i64.wrap ((IntKind.i64.wrap (h * 6364136223846793005)) + 1442695040888963407)) (2 ^ (33 : Int).toNat)) ^^^ BitVec.ofInt 64 (Int.fdiv (IntKind.i64.wrap ((IntKind.i64.wrap (h * 6364136223846793005)) + 1442695040888963407)) (2 ^ (45 : Int).toNat))).toNat) &&& BitVec.ofInt 64 255).toNat) + (IntKind.i64.wrap z))) &&& BitVec.ofInt 64 255).toNat)))] ?_
 refine kZ ?_
 refine kG ?_
 refine kOD 2 [3,49,50] [(49,.v (.pointer (some ⟨g,0,none⟩))),(50,.v (.pointer (some ⟨g,0,none⟩)))] (.pointer (some ⟨g,0,none⟩)) rfl (fun _ _ _ ww hr => act_nil (b := g) (m := 0) hr.1 rfl (by kernel_rfl) ww) ?_
 refine kOD 0 [3,49,51] [] (.pointer (some ⟨g,1,none⟩)) rfl (fun _ _ _ ww hr => act_fld (sz := 1) (b := g) (m := 0) hr.1 rfl Tryz.underlying100 rfl (by kernel_rfl) rfl (by kernel_rfl) rfl) ?_
 refine kOD 0 [3,49,52] [] (.int .i64 (i : Int)) rfl (fun _ _ _ ww hr => ldP_run (off := 1) (B := B) (g := g) (T := 100) (cs := [.slice A code.length cap,.int .i64 (i : Int),.int .i64 (IntKind.i64.wrap ((IntKind.i64.wrap (h * 6364136223846793005)) + 1442695040888963407))]) hr rfl (by kernel_rfl) (by simp) (by kernel_rfl)) ?_
 refine kOD 1 [3,49,54] [(54,.v (.int .i64 (IntKind.i64.wrap ((i : Int) + 1))))] (.pointer (some ⟨g,0,none⟩)) rfl (fun _ _ _ ww hr => act_nil (b := g) (m := 0) hr.1 rfl (by kernel_rfl) ww) ?_
 refine kOD 0 [3,54,55] [] (.pointer (some ⟨g,1,none⟩)) rfl (fun _ _ _ ww hr => act_fld (sz := 1) (b := g) (m := 0) hr.1 rfl Tryz.underlying100 rfl (by kernel_rfl) rfl (by kernel_rfl) rfl) ?_
 refine xl_hs 0 [3,54,56] ⟨[(3,.v (.int .i64 (IntKind.i64.wrap (BitVec.ofInt 64 (IntKind.i64.wrap ((IntKind.i64.wrap (BitVec.ofInt 64 (IntKind.i64.wrap (BitVec.ofInt 64 (Int.fdiv (IntKind.i64.wrap ((IntKind.i64.wrap (h * 6364136223846793005)) + 1442695040888963407)) (2 ^ (33 : Int).toNat)) ^^^ BitVec.ofInt 64 (Int.fdiv (IntKind.i64.wrap ((IntKind.i64.wrap (h * 6364136223846793005)) + 1442695040888963407)) (2 ^ (45 : Int).toNat))).toNat) &&& BitVec.ofInt 64 255).toNat) + (IntKind.i64.wrap z))) &&& BitVec.ofInt 64 255).toNat))),(54,.v (.int .i64 (IntKind.i64.wrap ((i : Int) + 1)))),(56,.v (.pointer (some ⟨g,1,none⟩)))],[],[[.int .u8 z],[.slice A code.length cap,.int .i64 (i : Int),.int .i64 (IntKind.i64.wrap ((IntKind.i64.wrap (h * 6364136223846793005)) + 1442695040888963407))]],[cellF B g 100 [.slice A code.length cap,.int .i64 (i : Int),.int .i64 (IntKind.i64.wrap ((IntKind.i64.wrap (h * 6364136223846793005)) + 1442695040888963407))],slF (.slice A code.length cap) 1 (code.map byteRow),frF w (fun b => b = g)]⟩ (by kernel_rfl) rfl (by kernel_rfl) rfl (by kernel_rfl) (hs_stP (g := g) (T := 100) (off := 1) (v := (.int .i64 (IntKind.i64.wrap ((i : Int) + 1)))) (i := 0) (B := B) (cs := [.slice A code.length cap,.int .i64 (i : Int),.int .i64 (IntKind.i64.wrap ((IntKind.i64.wrap (h * 6364136223846793005)) + 1442695040888963407))]) [.int .i64 (IntKind.i64.wrap ((i : Int) + 1))] (cs' := [.slice A code.length cap,.int .i64 (IntKind.i64.wrap ((i : Int) + 1)),.int .i64 (IntKind.i64.wrap ((IntKind.i64.wrap (h * 6364136223846793005)) + 1442695040888963407))]) rfl (by kernel_rfl) (by kernel_rfl) rfl (by kernel_rfl) rfl (by kernel_rfl) rfl rfl (cutW_le w B)) ?_
 refine kED [3] [] ?_
 refine kQ ?_
 refine kES [2] [(2,.v (.int .i64 (IntKind.i64.wrap (BitVec.ofInt 64 (IntKind.i64.wrap ((IntKind.i64.wrap (BitVec.ofInt 64 (IntKind.i64.wrap (BitVec.ofInt 64 (Int.fdiv (IntKind.i64.wrap ((IntKind.i64.wrap (h * 6364136223846793005)) + 1442695040888963407)) (2 ^ (33 : Int).toNat)) ^^^ BitVec.ofInt 64 (Int.fdiv (IntKind.i64.wrap ((IntKind.i64.wrap (h * 6364136223846793005)) + 1442695040888963407)) (2 ^ (45 : Int).toNat))).toNat) &&& BitVec.ofInt 64 255).toNat) + (IntKind.i64.wrap z))) &&& BitVec.ofInt 64 255).toNat)))] ?_
 refine kR ?_
 exact ⟨[.int .i64 (IntKind.i64.wrap (BitVec.ofInt 64 (IntKind.i64.wrap ((IntKind.i64.wrap (BitVec.ofInt 64 (IntKind.i64.wrap (BitVec.ofInt 64 (Int.fdiv (IntKind.i64.wrap ((IntKind.i64.wrap (h * 6364136223846793005)) + 1442695040888963407)) (2 ^ (33 : Int).toNat)) ^^^ BitVec.ofInt 64 (Int.fdiv (IntKind.i64.wrap ((IntKind.i64.wrap (h * 6364136223846793005)) + 1442695040888963407)) (2 ^ (45 : Int).toNat))).toNat) &&& BitVec.ofInt 64 255).toNat) + (IntKind.i64.wrap z))) &&& BitVec.ofInt 64 255).toNat)],by kernel_rfl,fun w' hb hf => ⟨⟨IntKind.i64.wrap (BitVec.ofInt 64 (IntKind.i64.wrap ((IntKind.i64.wrap (BitVec.ofInt 64 (IntKind.i64.wrap (BitVec.ofInt 64 (Int.fdiv (IntKind.i64.wrap ((IntKind.i64.wrap (h * 6364136223846793005)) + 1442695040888963407)) (2 ^ (33 : Int).toNat)) ^^^ BitVec.ofInt 64 (Int.fdiv (IntKind.i64.wrap ((IntKind.i64.wrap (h * 6364136223846793005)) + 1442695040888963407)) (2 ^ (45 : Int).toNat))).toNat) &&& BitVec.ofInt 64 255).toNat) + (IntKind.i64.wrap z))) &&& BitVec.ofInt 64 255).toNat,and255 _⟩,rfl,⟨hBg,i + 1,IntKind.i64.wrap ((IntKind.i64.wrap (h * 6364136223846793005)) + 1442695040888963407),by omega,by have := (hf (cellF B g 100 [.slice A code.length cap,.int .i64 (IntKind.i64.wrap ((i : Int) + 1)),.int .i64 (IntKind.i64.wrap ((IntKind.i64.wrap (h * 6364136223846793005)) + 1442695040888963407))]) (by simp)).2; rw [show IntKind.i64.wrap ((i : Int) + 1) = ((i + 1 : Nat) : Int) from by rw [wrap_id (by omega) (by omega)]; omega] at this; exact this⟩,frF_chgd (hf (frF w (fun b => b = g)) (by simp)) hb rfl rfl rfl⟩⟩
 have h3p := of_decide_eq_false h3
 refine kK ?_
 refine kQ ?_
 refine kES [2] [(2,.v (.int .i64 (IntKind.i64.wrap (BitVec.ofInt 64 (IntKind.i64.wrap (BitVec.ofInt 64 (Int.fdiv (IntKind.i64.wrap ((IntKind.i64.wrap (h * 6364136223846793005)) + 1442695040888963407)) (2 ^ (33 : Int).toNat)) ^^^ BitVec.ofInt 64 (Int.fdiv (IntKind.i64.wrap ((IntKind.i64.wrap (h * 6364136223846793005)) + 1442695040888963407)) (2 ^ (45 : Int).toNat))).toNat) &&& BitVec.ofInt 64 255).toNat)))] ?_
 refine kR ?_
 exact ⟨[.int .i64 (IntKind.i64.wrap (BitVec.ofInt 64 (IntKind.i64.wrap (BitVec.ofInt 64 (Int.fdiv (IntKind.i64.wrap ((IntKind.i64.wrap (h * 6364136223846793005)) + 1442695040888963407)) (2 ^ (33 : Int).toNat)) ^^^ BitVec.ofInt 64 (Int.fdiv (IntKind.i64.wrap ((IntKind.i64.wrap (h * 6364136223846793005)) + 1442695040888963407)) (2 ^ (45 : Int).toNat))).toNat) &&& BitVec.ofInt 64 255).toNat)],by kernel_rfl,fun w' hb hf => ⟨⟨IntKind.i64.wrap (BitVec.ofInt 64 (IntKind.i64.wrap (BitVec.ofInt 64 (Int.fdiv (IntKind.i64.wrap ((IntKind.i64.wrap (h * 6364136223846793005)) + 1442695040888963407)) (2 ^ (33 : Int).toNat)) ^^^ BitVec.ofInt 64 (Int.fdiv (IntKind.i64.wrap ((IntKind.i64.wrap (h * 6364136223846793005)) + 1442695040888963407)) (2 ^ (45 : Int).toNat))).toNat) &&& BitVec.ofInt 64 255).toNat,and255 _⟩,rfl,⟨hBg,i,IntKind.i64.wrap ((IntKind.i64.wrap (h * 6364136223846793005)) + 1442695040888963407),hi,(hf (cellF B g 100 [.slice A code.length cap,.int .i64 (i : Int),.int .i64 (IntKind.i64.wrap ((IntKind.i64.wrap (h * 6364136223846793005)) + 1442695040888963407))]) (by simp)).2⟩,frF_chgd (hf (frF w (fun b => b = g)) (by simp)) hb rfl rfl rfl⟩⟩
theorem l1Byte_c_K {g : Nat} {code : List Int} {A : Option Addr} {cap : Nat}  {w0 : World} {fs : List Fact} {B : Nat} (hB : B ≤ w0.heap.size) (hap : ¬ (slF (.slice A code.length cap) 1 (code.map byteRow)).blk g)  (hn : code.length ≤ 1048576 := by omega) (h1 : curF B g 100 (.slice A code.length cap) code.length ∈ fs := by simp) (h2 : slF (.slice A code.length cap) 1 (code.map byteRow) ∈ fs := by simp) : XCM Tryz.prog w0 fs (curF B g 100 (.slice A code.length cap) code.length).blk 118 [.pointer (some ⟨g, 0, none⟩)] (α := {y : Int // 0 ≤ y ∧ y ≤ 255}) (fun y => .int .i64 y.1) (fun _ => [curF B g 100 (.slice A code.length cap) code.length]) := xcm_cur fun w hw hf => l1Byte_c g code A cap  w B (Nat.le_trans hB hw) (hf _ h1) (hf _ h2) hap hn  
theorem l1Below_c (g : Nat) (code : List Int) (A : Option Addr) (cap : Nat) (n : Int) (w : World) (B : Nat) (hB : B ≤ w.heap.size) (hc : (curF B g 100 (.slice A code.length cap) code.length).p w) (hl : Sl w (.slice A code.length cap) 1 (code.map byteRow)) (hap : ¬ (slF (.slice A code.length cap) 1 (code.map byteRow)).blk g) (hn : code.length ≤ 1048576)  : Calls Tryz.prog 86 #[.pointer (some ⟨g, 0, none⟩), .int .i64 n] w fun e w' => ∃ y : {y : Int // 0 ≤ y ∧ (0 < n → y < n)}, e = .returned (.int .i64 y.1) ∧ (curF B g 100 (.slice A code.length cap) code.length).p w' ∧ Chgd (fun b => b = g) w w' := by
 have hq_code := Sl.capLe hl
 have hBw : B ≤ (cutW w B).heap.size := Nat.le_of_eq (cutW_size hB).symm
 have hlo : ∀ (ww : World) (b : Nat),(curF B g 100 (.slice A code.length cap) code.length).p ww → (curF B g 100 (.slice A code.length cap) code.length).blk b → (cutW w B).heap.size ≤ b := fun ww b h hb => Nat.le_trans (cutW_le w B) (cur_lo h hb)
 refine x_callsM (args := [.pointer (some ⟨g,0,none⟩),.int .i64 n]) (fn := Tryz.f86) [curF B g 100 (.slice A code.length cap) code.length,slF (.slice A code.length cap) 1 (code.map byteRow),frF w (fun b => b = g)] B Tryz.func86 rfl Tryz.ntmps86 rfl hB (by simp only [List.mem_cons,List.not_mem_nil,or_false,forall_eq_or_imp,forall_eq]; exact ⟨hc,hl,frF_start w _⟩) (apart_cur hap rfl) ?_
 refine kQ ?_
 refine kEF [0,1] ⟨[(0,.v (.pointer (some ⟨g,0,none⟩))),(1,.v (.int .i64 n))],[],[],[curF B g 100 (.slice A code.length cap) code.length,slF (.slice A code.length cap) 1 (code.map byteRow),frF w (fun b => b = g)]⟩ ?_
 refine kS ?_
 refine kQ ?_
 refine kED [0,1,10] [(10,.v (.bool (decide (n ≤ 0))))] ?_
 refine kC (decide (n ≤ 0)) (fun h1 => ?_) (fun h1 => ?_)
 have h1p := of_decide_eq_true h1
 refine kQ ?_
 refine kES [4] [(4,.v (.int .i64 0))] ?_
 refine kR ?_
 exact ⟨[.int .i64 0],by kernel_rfl,fun w' hb hf => ⟨⟨0,(by first | (exact ⟨by omega,fun _ => by omega⟩) | (exact tmod_bd (by omega) (by omega)))⟩,rfl,hf (curF B g 100 (.slice A code.length cap) code.length) (by simp),frF_chgd (hf (frF w (fun b => b = g)) (by simp)) hb rfl rfl rfl⟩⟩
 have h1p := of_decide_eq_false h1
 refine kK ?_
 refine kS ?_
 refine kQ ?_
 refine kED [0,1,12] [(12,.v (.bool (decide (n ≤ 256))))] ?_
 refine kC (decide (n ≤ 256)) (fun h2 => ?_) (fun h2 => ?_)
 have h2p := of_decide_eq_true h2
 refine kQ ?_
 refine kWD 1 [1,13] [(13,.v (.pointer (some ⟨g,0,none⟩)))] 118 [.pointer (some ⟨g,0,none⟩)] (some 14) 0 rfl rfl hlo (l1Byte_c_K hBw hap) ?_
 rintro ⟨y3,hy3⟩
 refine kOD 1 [14,15] [(15,.v (.int .i64 n))] (.int .i64 (Int.tmod y3 n)) rfl (fun _ _ _ ww hr => act_bin hr.1 rfl (by kernel_rfl) (by kernel_rfl) (rem_run (by first | decide | omega) ww)) ?_
 refine kES [4] [(4,.v (.int .i64 (Int.tmod y3 n)))] ?_
 refine kR ?_
 exact ⟨[.int .i64 (Int.tmod y3 n)],by kernel_rfl,fun w' hb hf => ⟨⟨Int.tmod y3 n,(by first | (exact ⟨by omega,fun _ => by omega⟩) | (exact tmod_bd (by omega) (by omega)))⟩,rfl,hf (curF B g 100 (.slice A code.length cap) code.length) (by simp),frF_chgd (hf (frF w (fun b => b = g)) (by simp)) hb rfl rfl rfl⟩⟩
 have h2p := of_decide_eq_false h2
 refine kK ?_
 refine kQ ?_
 refine kWD 1 [0,1,17] [(17,.v (.pointer (some ⟨g,0,none⟩)))] 118 [.pointer (some ⟨g,0,none⟩)] (some 18) 0 rfl rfl hlo (l1Byte_c_K hBw hap) ?_
 rintro ⟨y4,hy4⟩
 refine kED [0,1,5] [(5,.v (.int .i64 y4))] ?_
 refine kQ ?_
 refine kWD 1 [0,1,5,19] [(19,.v (.pointer (some ⟨g,0,none⟩)))] 118 [.pointer (some ⟨g,0,none⟩)] (some 20) 0 rfl rfl hlo (l1Byte_c_K hBw hap) ?_
 rintro ⟨y5,hy5⟩
 refine kED [0,1,5,6] [(6,.v (.int .i64 y5))] ?_
 refine kQ ?_
 refine kWD 1 [0,1,5,6,21] [(21,.v (.pointer (some ⟨g,0,none⟩)))] 118 [.pointer (some ⟨g,0,none⟩)] (some 22) 0 rfl rfl hlo (l1Byte_c_K hBw hap) ?_
 rintro ⟨y6,hy6⟩
 refine kED [0,1,5,6,7] [(7,.v (.int .i64 y6))] ?_
 refine kQ ?_
 refine kWD 1 [1,5,6,7,23] [(23,.v (.pointer (some ⟨g,0,none⟩)))] 118 [.pointer (some ⟨g,0,none⟩)] (some 24) 0 rfl rfl hlo (l1Byte_c_K hBw hap) ?_
 rintro ⟨y7,hy7⟩
 refine kED [1,5,6,7,8] [(8,.v (.int .i64 y7))] ?_
 refine kQ ?_
 refine kOS 11 [34,35] [(34,.v (.int .i64 (IntKind.i64.wrap ((IntKind.i64.wrap ((IntKind.i64.wrap ((IntKind.i64.wrap (y4 * 16777216)) + (IntKind.i64.wrap (y5 * 65536)))) + (IntKind.i64.wrap (y6 * 256)))) + y7)))),(35,.v (.int .i64 n))] (.int .i64 (Int.tmod (IntKind.i64.wrap ((IntKind.i64.wrap ((IntKind.i64.wrap ((IntKind.i64.wrap (y4 * 16777216)) + (IntKind.i64.wrap (y5 * 65536)))) + (IntKind.i64.wrap (y6 * 256)))) + y7)) n)) rfl (fun _ _ _ ww hr => act_bin hr.1 rfl (by kernel_rfl) (by kernel_rfl) (rem_run (by first | decide | omega) ww)) ?_
 refine kRS 1 [4] [(4,.v (.int .i64 (Int.tmod (IntKind.i64.wrap ((IntKind.i64.wrap ((IntKind.i64.wrap ((IntKind.i64.wrap (y4 * 16777216)) + (IntKind.i64.wrap (y5 * 65536)))) + (IntKind.i64.wrap (y6 * 256)))) + y7)) n)))] ?_
 refine xl_eqS (t' := [(4,.v (.int .i64 (Int.tmod ((((y4 * 16777216) + (y5 * 65536)) + (y6 * 256)) + y7) n)))]) (by rw [show (IntKind.i64.wrap (y6 * 256)) = (y6 * 256) from wrap_id (by omega) (by omega),show (IntKind.i64.wrap (y5 * 65536)) = (y5 * 65536) from wrap_id (by omega) (by omega),show (IntKind.i64.wrap (y4 * 16777216)) = (y4 * 16777216) from wrap_id (by omega) (by omega),show (IntKind.i64.wrap ((y4 * 16777216) + (y5 * 65536))) = ((y4 * 16777216) + (y5 * 65536)) from wrap_id (by omega) (by omega),show (IntKind.i64.wrap (((y4 * 16777216) + (y5 * 65536)) + (y6 * 256))) = (((y4 * 16777216) + (y5 * 65536)) + (y6 * 256)) from wrap_id (by omega) (by omega),show (IntKind.i64.wrap ((((y4 * 16777216) + (y5 * 65536)) + (y6 * 256)) + y7)) = ((((y4 * 16777216) + (y5 * 65536)) + (y6 * 256)) + y7) from wrap_id (by omega) (by omega)]) ?_
 refine kED [4] [] ?_
 refine kR ?_
 exact ⟨[.int .i64 (Int.tmod ((((y4 * 16777216) + (y5 * 65536)) + (y6 * 256)) + y7) n)],by kernel_rfl,fun w' hb hf => ⟨⟨Int.tmod ((((y4 * 16777216) + (y5 * 65536)) + (y6 * 256)) + y7) n,(by first | (exact ⟨by omega,fun _ => by omega⟩) | (exact tmod_bd (by omega) (by omega)))⟩,rfl,hf (curF B g 100 (.slice A code.length cap) code.length) (by simp),frF_chgd (hf (frF w (fun b => b = g)) (by simp)) hb rfl rfl rfl⟩⟩
theorem l1Below_c_K {g : Nat} {code : List Int} {A : Option Addr} {cap : Nat} {n : Int} {w0 : World} {fs : List Fact} {B : Nat} (hB : B ≤ w0.heap.size) (hap : ¬ (slF (.slice A code.length cap) 1 (code.map byteRow)).blk g)  (hn : code.length ≤ 1048576 := by omega) (h1 : curF B g 100 (.slice A code.length cap) code.length ∈ fs := by simp) (h2 : slF (.slice A code.length cap) 1 (code.map byteRow) ∈ fs := by simp) : XCM Tryz.prog w0 fs (curF B g 100 (.slice A code.length cap) code.length).blk 86 [.pointer (some ⟨g, 0, none⟩), .int .i64 n] (α := {y : Int // 0 ≤ y ∧ (0 < n → y < n)}) (fun y => .int .i64 y.1) (fun _ => [curF B g 100 (.slice A code.length cap) code.length]) := xcm_cur fun w hw hf => l1Below_c g code A cap n w B (Nat.le_trans hB hw) (hf _ h1) (hf _ h2) hap hn  
theorem l1Once_c (g : Nat) (code : List Int) (A : Option Addr) (cap : Nat) (n : Int) (w : World) (B : Nat) (hB : B ≤ w.heap.size) (hc : (curF B g 100 (.slice A code.length cap) code.length).p w) (hl : Sl w (.slice A code.length cap) 1 (code.map byteRow)) (hap : ¬ (slF (.slice A code.length cap) 1 (code.map byteRow)).blk g) (hn : code.length ≤ 1048576)  : Calls Tryz.prog 64 #[.pointer (some ⟨g, 0, none⟩), .int .i64 n] w fun e w' => ∃ y : {y : Bool // True}, e = .returned (.bool y.1) ∧ (curF B g 100 (.slice A code.length cap) code.length).p w' ∧ Chgd (fun b => b = g) w w' := by
 have hq_code := Sl.capLe hl
 have hBw : B ≤ (cutW w B).heap.size := Nat.le_of_eq (cutW_size hB).symm
 have hlo : ∀ (ww : World) (b : Nat),(curF B g 100 (.slice A code.length cap) code.length).p ww → (curF B g 100 (.slice A code.length cap) code.length).blk b → (cutW w B).heap.size ≤ b := fun ww b h hb => Nat.le_trans (cutW_le w B) (cur_lo h hb)
 refine x_callsM (args := [.pointer (some ⟨g,0,none⟩),.int .i64 n]) (fn := Tryz.f64) [curF B g 100 (.slice A code.length cap) code.length,slF (.slice A code.length cap) 1 (code.map byteRow),frF w (fun b => b = g)] B Tryz.func64 rfl Tryz.ntmps64 rfl hB (by simp only [List.mem_cons,List.not_mem_nil,or_false,forall_eq_or_imp,forall_eq]; exact ⟨hc,hl,frF_start w _⟩) (apart_cur hap rfl) ?_
 refine kQ ?_
 refine kEF [0,1] ⟨[(0,.v (.pointer (some ⟨g,0,none⟩))),(1,.v (.int .i64 n))],[],[],[curF B g 100 (.slice A code.length cap) code.length,slF (.slice A code.length cap) 1 (code.map byteRow),frF w (fun b => b = g)]⟩ ?_
 refine kQ ?_
 refine kWS 2 [5,6] [(5,.v (.pointer (some ⟨g,0,none⟩))),(6,.v (.int .i64 n))] 86 [.pointer (some ⟨g,0,none⟩),.int .i64 n] (some 7) 0 rfl rfl hlo (l1Below_c_K hBw hap) ?_
 rintro ⟨y1,hy1⟩
 obtain ⟨hy10,hy11⟩ := hy1
 refine kES [4] [(4,.v (.bool (y1 == 0)))] ?_
 refine kR ?_
 exact ⟨[.bool (y1 == 0)],by kernel_rfl,fun w' hb hf => ⟨⟨y1 == 0,trivial⟩,rfl,hf (curF B g 100 (.slice A code.length cap) code.length) (by simp),frF_chgd (hf (frF w (fun b => b = g)) (by simp)) hb rfl rfl rfl⟩⟩
theorem l1Once_c_K {g : Nat} {code : List Int} {A : Option Addr} {cap : Nat} {n : Int} {w0 : World} {fs : List Fact} {B : Nat} (hB : B ≤ w0.heap.size) (hap : ¬ (slF (.slice A code.length cap) 1 (code.map byteRow)).blk g)  (hn : code.length ≤ 1048576 := by omega) (h1 : curF B g 100 (.slice A code.length cap) code.length ∈ fs := by simp) (h2 : slF (.slice A code.length cap) 1 (code.map byteRow) ∈ fs := by simp) : XCM Tryz.prog w0 fs (curF B g 100 (.slice A code.length cap) code.length).blk 64 [.pointer (some ⟨g, 0, none⟩), .int .i64 n] (α := {y : Bool // True}) (fun y => .bool y.1) (fun _ => [curF B g 100 (.slice A code.length cap) code.length]) := xcm_cur fun w hw hf => l1Once_c g code A cap n w B (Nat.le_trans hB hw) (hf _ h1) (hf _ h2) hap hn  
theorem l1PickInt_c (g : Nat) (code : List Int) (A : Option Addr) (cap : Nat) (list : List Int) (listV : Value) (w : World) (B : Nat) (hB : B ≤ w.heap.size) (hc : (curF B g 100 (.slice A code.length cap) code.length).p w) (hl : Sl w (.slice A code.length cap) 1 (code.map byteRow)) (hap : ¬ (slF (.slice A code.length cap) 1 (code.map byteRow)).blk g) (hn : code.length ≤ 1048576) (hl_listV : Sl w listV 1 (list.map intRow)) (hap2 : ¬ (slF listV 1 (list.map intRow)).blk g) (hne : 0 < list.length) : Calls Tryz.prog 66 #[.pointer (some ⟨g, 0, none⟩), listV] w fun e w' => ∃ y : {y : Int // y ∈ list}, e = .returned (.int .i64 y.1) ∧ (curF B g 100 (.slice A code.length cap) code.length).p w' ∧ Chgd (fun b => b = g) w w' := by
 have hq_code := Sl.capLe hl
 have hBw : B ≤ (cutW w B).heap.size := Nat.le_of_eq (cutW_size hB).symm
 have hlo : ∀ (ww : World) (b : Nat),(curF B g 100 (.slice A code.length cap) code.length).p ww → (curF B g 100 (.slice A code.length cap) code.length).blk b → (cutW w B).heap.size ≤ b := fun ww b h hb => Nat.le_trans (cutW_le w B) (cur_lo h hb)
 obtain ⟨Al,Cl,hvl⟩ := hl_listV.form
 rw [List.length_map] at hvl; subst hvl
 have hnl := hl_listV.len; rw [List.length_map] at hnl
 have hql := Sl.capLe hl_listV
 refine x_callsM (args := [.pointer (some ⟨g,0,none⟩),.slice Al list.length Cl]) (fn := Tryz.f66) [curF B g 100 (.slice A code.length cap) code.length,slF (.slice A code.length cap) 1 (code.map byteRow),frF w (fun b => b = g),slF (.slice Al list.length Cl) 1 (list.map intRow)] B Tryz.func66 rfl Tryz.ntmps66 rfl hB (by simp only [List.mem_cons,List.not_mem_nil,or_false,forall_eq_or_imp,forall_eq]; exact ⟨hc,hl,frF_start w _,hl_listV⟩) (apart_cur2 hap rfl hap2 rfl) ?_
 refine kQ ?_
 refine kEF [0,1] ⟨[(0,.v (.pointer (some ⟨g,0,none⟩))),(1,.v (.slice Al list.length Cl))],[],[],[curF B g 100 (.slice A code.length cap) code.length,slF (.slice A code.length cap) 1 (code.map byteRow),frF w (fun b => b = g),slF (.slice Al list.length Cl) 1 (list.map intRow)]⟩ ?_
 refine kQ ?_
 refine kWS 4 [5,6,8] [(5,.v (.slice Al list.length Cl)),(6,.v (.pointer (some ⟨g,0,none⟩))),(8,.v (.int .i64 ((list.length : Nat) : Int)))] 86 [.pointer (some ⟨g,0,none⟩),.int .i64 ((list.length : Nat) : Int)] (some 9) 0 rfl rfl hlo (l1Below_c_K hBw hap) ?_
 rintro ⟨y1,hy1⟩
 obtain ⟨hy10,hy11⟩ := hy1
 obtain ⟨j2,hj2⟩ : ∃ j : Nat,y1 = (j : Int) := ⟨y1.toNat,by omega⟩
 subst hj2
 have hlt : j2 < list.length := by omega
 obtain ⟨z,hz⟩ : ∃ z,list[j2]? = some z := ⟨_,List.getElem?_eq_getElem hlt⟩
 refine xl_indexD (kd := .i64) (T := 73) (e := 3) (K := 1) 0 [5,9] [] j2 [.int .i64 z] (slF (.slice Al list.length Cl) 1 (list.map intRow)) (by kernel_rfl) rfl (by kernel_rfl) rfl rfl (by kernel_rfl) (by kernel_rfl) (by kernel_rfl) (by kernel_rfl) hlt (by simp) (fun w h => h) (fun b h => h) (by simp only [List.getElem?_map,hz]; rfl) ?_
 refine kES [4] [(4,.v (.int .i64 z))] ?_
 refine kR ?_
 exact ⟨[.int .i64 z],by kernel_rfl,fun w' hb hf => ⟨⟨z,List.mem_of_getElem? hz⟩,rfl,hf (curF B g 100 (.slice A code.length cap) code.length) (by simp),frF_chgd (hf (frF w (fun b => b = g)) (by simp)) hb rfl rfl rfl⟩⟩
theorem l1PickInt_c_K {g : Nat} {code : List Int} {A : Option Addr} {cap : Nat} {list : List Int} {listV : Value} {w0 : World} {fs : List Fact} {B : Nat} (hB : B ≤ w0.heap.size) (hap : ¬ (slF (.slice A code.length cap) 1 (code.map byteRow)).blk g) (hs0 : ∀ w : World, w0.heap.size ≤ w.heap.size → (∀ f ∈ fs, f.p w) → Sl w listV 1 (list.map intRow)) (hq0 : ¬ (slF listV 1 (list.map intRow)).blk g) (hne : 0 < list.length) (hn : code.length ≤ 1048576 := by omega) (h1 : curF B g 100 (.slice A code.length cap) code.length ∈ fs := by simp) (h2 : slF (.slice A code.length cap) 1 (code.map byteRow) ∈ fs := by simp) : XCM Tryz.prog w0 fs (curF B g 100 (.slice A code.length cap) code.length).blk 66 [.pointer (some ⟨g, 0, none⟩), listV] (α := {y : Int // y ∈ list}) (fun y => .int .i64 y.1) (fun _ => [curF B g 100 (.slice A code.length cap) code.length]) := xcm_cur fun w hw hf => l1PickInt_c g code A cap list listV w B (Nat.le_trans hB hw) (hf _ h1) (hf _ h2) hap hn (hs0 w hw hf) hq0 hne
theorem l1Whole_c (g : Nat) (code : List Int) (A : Option Addr) (cap : Nat)  (w : World) (B : Nat) (hB : B ≤ w.heap.size) (hc : (curF B g 100 (.slice A code.length cap) code.length).p w) (hl : Sl w (.slice A code.length cap) 1 (code.map byteRow)) (hap : ¬ (slF (.slice A code.length cap) 1 (code.map byteRow)).blk g) (hn : code.length ≤ 1048576)  : Calls Tryz.prog 134 #[.pointer (some ⟨g, 0, none⟩)] w fun e w' => ∃ y : {y : Int // True}, e = .returned (.int .i64 y.1) ∧ (curF B g 100 (.slice A code.length cap) code.length).p w' ∧ Chgd (fun b => b = g) w w' := by
 have hq_code := Sl.capLe hl
 have hBw : B ≤ (cutW w B).heap.size := Nat.le_of_eq (cutW_size hB).symm
 have hlo : ∀ (ww : World) (b : Nat),(curF B g 100 (.slice A code.length cap) code.length).p ww → (curF B g 100 (.slice A code.length cap) code.length).blk b → (cutW w B).heap.size ≤ b := fun ww b h hb => Nat.le_trans (cutW_le w B) (cur_lo h hb)
 refine x_callsM (args := [.pointer (some ⟨g,0,none⟩)]) (fn := Tryz.f134) [curF B g 100 (.slice A code.length cap) code.length,slF (.slice A code.length cap) 1 (code.map byteRow),frF w (fun b => b = g)] B Tryz.func134 rfl Tryz.ntmps134 rfl hB (by simp only [List.mem_cons,List.not_mem_nil,or_false,forall_eq_or_imp,forall_eq]; exact ⟨hc,hl,frF_start w _⟩) (apart_cur hap rfl) ?_
 refine kQ ?_
 refine kEF [0] ⟨[(0,.v (.pointer (some ⟨g,0,none⟩)))],[],[],[curF B g 100 (.slice A code.length cap) code.length,slF (.slice A code.length cap) 1 (code.map byteRow),frF w (fun b => b = g)]⟩ ?_
 refine kS ?_
 refine kQ ?_
 refine kWD 1 [0,3] [(3,.v (.pointer (some ⟨g,0,none⟩)))] 86 [.pointer (some ⟨g,0,none⟩),.int .i64 3] (some 4) 0 rfl rfl hlo (l1Below_c_K hBw hap) ?_
 rintro ⟨y1,hy1⟩
 obtain ⟨hy10,hy11⟩ := hy1
 refine kED [0,4] [] ?_
 refine xw_block ?_
 refine kQ ?_
 refine kED [0,4,5] [(5,.v (.bool (y1 == 0)))] ?_
 refine kC (y1 == 0) (fun h2 => ?_) (fun h2 => ?_)
 have h2p := eqT h2
 refine kQ ?_
 refine kHS 1 [7] [(7,.v (.pointer (some ⟨g,0,none⟩)))] rfl (hv_build (e := 3) (K := 1) (bytes := 8) [.int .i64 0,.int .i64 1,.int .i64 (-1),.int .i64 9,.int .i64 10,.int .i64 999999999999,.int .i64 1000000000000,.int .i64 9223372036854775807,.int .i64 4294967295,.int .i64 4294967296,.int .i64 65535,.int .i64 65536,.int .i64 (-9223372036854775808)] rfl (by kernel_rfl) (by kernel_rfl) (by kernel_rfl) (by kernel_rfl) (by kernel_rfl) (rs := ([0,1,(-1),9,10,999999999999,1000000000000,9223372036854775807,4294967295,4294967296,65535,65536,(-9223372036854775808)] : List Int).map intRow) rfl) ?_
 intro g3
 refine xl_know (φ := ¬ (slF (.slice (some ⟨g3,0,none⟩) 13 13) 1 (([0,1,(-1),9,10,999999999999,1000000000000,9223372036854775807,4294967295,4294967296,65535,65536,(-9223372036854775808)] : List Int).map intRow)).blk g) (fun _ _ _ _ hr => fun hb => hr.2.apart 0 1 (rowF (cutW w B).heap.size 3 1 (.slice (some ⟨g3,0,none⟩) 13 13) (([0,1,(-1),9,10,999999999999,1000000000000,9223372036854775807,4294967295,4294967296,65535,65536,(-9223372036854775808)] : List Int).map intRow)) (curF B g 100 (.slice A code.length cap) code.length) rfl rfl (by decide) rfl g (rowF_sblk hb) rfl) (fun hk4 => ?_)
 refine kWD 0 [7,8] [] 66 [.pointer (some ⟨g,0,none⟩),.slice (some ⟨g3,0,none⟩) 13 13] (some 9) 1 rfl rfl hlo (l1PickInt_c_K hBw hap (fun ww hw hf => (rowF_sl (hf _ m0))) hk4 (by simp)) ?_
 rintro ⟨y5,hy5⟩
 refine kES [2] [(2,.v (.int .i64 y5))] ?_
 refine kR ?_
 exact ⟨[.int .i64 y5],by kernel_rfl,fun w' hb hf => ⟨⟨y5,trivial⟩,rfl,hf (curF B g 100 (.slice A code.length cap) code.length) (by simp),frF_chgd (hf (frF w (fun b => b = g)) (by simp)) hb rfl rfl rfl⟩⟩
 have h2p := eqF h2
 refine kQ ?_
 refine kED [0,10] [(10,.v (.bool (y1 == 1)))] ?_
 refine kC (y1 == 1) (fun h6 => ?_) (fun h6 => ?_)
 have h6p := eqT h6
 refine kQ ?_
 refine kWS 1 [12] [(12,.v (.pointer (some ⟨g,0,none⟩)))] 86 [.pointer (some ⟨g,0,none⟩),.int .i64 1000000] (some 13) 0 rfl rfl hlo (l1Below_c_K hBw hap) ?_
 rintro ⟨y7,hy7⟩
 obtain ⟨hy70,hy71⟩ := hy7
 refine kRS 2 [2] [(2,.v (.int .i64 (IntKind.i64.wrap (y7 - 500000))))] ?_
 refine xl_eqS (t' := [(2,.v (.int .i64 (y7 - 500000)))]) (by rw [show (IntKind.i64.wrap (y7 - 500000)) = (y7 - 500000) from wrap_id (by omega) (by omega)]) ?_
 refine kED [2] [] ?_
 refine kR ?_
 exact ⟨[.int .i64 (y7 - 500000)],by kernel_rfl,fun w' hb hf => ⟨⟨y7 - 500000,trivial⟩,rfl,hf (curF B g 100 (.slice A code.length cap) code.length) (by simp),frF_chgd (hf (frF w (fun b => b = g)) (by simp)) hb rfl rfl rfl⟩⟩
 have h6p := eqF h6
 refine kK ?_
 refine kQ ?_
 refine kWS 1 [15] [(15,.v (.pointer (some ⟨g,0,none⟩)))] 86 [.pointer (some ⟨g,0,none⟩),.int .i64 20] (some 16) 0 rfl rfl hlo (l1Below_c_K hBw hap) ?_
 rintro ⟨y8,hy8⟩
 obtain ⟨hy80,hy81⟩ := hy8
 refine kES [2] [(2,.v (.int .i64 y8))] ?_
 refine kR ?_
 exact ⟨[.int .i64 y8],by kernel_rfl,fun w' hb hf => ⟨⟨y8,trivial⟩,rfl,hf (curF B g 100 (.slice A code.length cap) code.length) (by simp),frF_chgd (hf (frF w (fun b => b = g)) (by simp)) hb rfl rfl rfl⟩⟩
theorem l1Whole_c_K {g : Nat} {code : List Int} {A : Option Addr} {cap : Nat}  {w0 : World} {fs : List Fact} {B : Nat} (hB : B ≤ w0.heap.size) (hap : ¬ (slF (.slice A code.length cap) 1 (code.map byteRow)).blk g)  (hn : code.length ≤ 1048576 := by omega) (h1 : curF B g 100 (.slice A code.length cap) code.length ∈ fs := by simp) (h2 : slF (.slice A code.length cap) 1 (code.map byteRow) ∈ fs := by simp) : XCM Tryz.prog w0 fs (curF B g 100 (.slice A code.length cap) code.length).blk 134 [.pointer (some ⟨g, 0, none⟩)] (α := {y : Int // True}) (fun y => .int .i64 y.1) (fun _ => [curF B g 100 (.slice A code.length cap) code.length]) := xcm_cur fun w hw hf => l1Whole_c g code A cap  w B (Nat.le_trans hB hw) (hf _ h1) (hf _ h2) hap hn  
theorem l2Word_c (g : Nat) (code : List Int) (A : Option Addr) (cap : Nat)  (w : World) (B : Nat) (hB : B ≤ w.heap.size) (hc : (curF B g 100 (.slice A code.length cap) code.length).p w) (hl : Sl w (.slice A code.length cap) 1 (code.map byteRow)) (hap : ¬ (slF (.slice A code.length cap) 1 (code.map byteRow)).blk g) (hn : code.length ≤ 1048576)  : Calls Tryz.prog 123 #[.pointer (some ⟨g, 0, none⟩)] w fun e w' => ∃ y : {y : Int // True}, e = .returned (.int .i64 y.1) ∧ (curF B g 100 (.slice A code.length cap) code.length).p w' ∧ Chgd (fun b => b = g) w w' := by
 have hq_code := Sl.capLe hl
 have hBw : B ≤ (cutW w B).heap.size := Nat.le_of_eq (cutW_size hB).symm
 have hlo : ∀ (ww : World) (b : Nat),(curF B g 100 (.slice A code.length cap) code.length).p ww → (curF B g 100 (.slice A code.length cap) code.length).blk b → (cutW w B).heap.size ≤ b := fun ww b h hb => Nat.le_trans (cutW_le w B) (cur_lo h hb)
 refine x_callsM (args := [.pointer (some ⟨g,0,none⟩)]) (fn := Tryz.f123) [curF B g 100 (.slice A code.length cap) code.length,slF (.slice A code.length cap) 1 (code.map byteRow),frF w (fun b => b = g)] B Tryz.func123 rfl Tryz.ntmps123 rfl hB (by simp only [List.mem_cons,List.not_mem_nil,or_false,forall_eq_or_imp,forall_eq]; exact ⟨hc,hl,frF_start w _⟩) (apart_cur hap rfl) ?_
 refine kQ ?_
 refine kEF [0] ⟨[(0,.v (.pointer (some ⟨g,0,none⟩)))],[],[],[curF B g 100 (.slice A code.length cap) code.length,slF (.slice A code.length cap) 1 (code.map byteRow),frF w (fun b => b = g)]⟩ ?_
 refine kS ?_
 refine kQ ?_
 refine kWD 1 [0,3] [(3,.v (.pointer (some ⟨g,0,none⟩)))] 86 [.pointer (some ⟨g,0,none⟩),.int .i64 3] (some 4) 0 rfl rfl hlo (l1Below_c_K hBw hap) ?_
 rintro ⟨y1,hy1⟩
 obtain ⟨hy10,hy11⟩ := hy1
 refine kED [0,4] [] ?_
 refine xw_block ?_
 refine kQ ?_
 refine kED [0,4,5] [(5,.v (.bool (y1 == 0)))] ?_
 refine kC (y1 == 0) (fun h2 => ?_) (fun h2 => ?_)
 have h2p := eqT h2
 refine kQ ?_
 refine kWS 1 [7] [(7,.v (.pointer (some ⟨g,0,none⟩)))] 134 [.pointer (some ⟨g,0,none⟩)] (some 8) 0 rfl rfl hlo (l1Whole_c_K hBw hap) ?_
 rintro ⟨y3,hy3⟩
 refine kES [2] [(2,.v (.int .i64 y3))] ?_
 refine kR ?_
 exact ⟨[.int .i64 y3],by kernel_rfl,fun w' hb hf => ⟨⟨y3,trivial⟩,rfl,hf (curF B g 100 (.slice A code.length cap) code.length) (by simp),frF_chgd (hf (frF w (fun b => b = g)) (by simp)) hb rfl rfl rfl⟩⟩
 have h2p := eqF h2
 refine kQ ?_
 refine kED [0,9] [(9,.v (.bool (y1 == 1)))] ?_
 refine kC (y1 == 1) (fun h4 => ?_) (fun h4 => ?_)
 have h4p := eqT h4
 refine kQ ?_
 refine kHS 1 [11] [(11,.v (.pointer (some ⟨g,0,none⟩)))] rfl (hv_build (e := 3) (K := 1) (bytes := 8) [.int .i64 0,.int .i64 1,.int .i64 255,.int .i64 256,.int .i64 65535,.int .i64 65536,.int .i64 16777215,.int .i64 4294967295,.int .i64 4294967296,.int .i64 281474976710655,.int .i64 281474976710656] rfl (by kernel_rfl) (by kernel_rfl) (by kernel_rfl) (by kernel_rfl) (by kernel_rfl) (rs := ([0,1,255,256,65535,65536,16777215,4294967295,4294967296,281474976710655,281474976710656] : List Int).map intRow) rfl) ?_
 intro g5
 refine xl_know (φ := ¬ (slF (.slice (some ⟨g5,0,none⟩) 11 11) 1 (([0,1,255,256,65535,65536,16777215,4294967295,4294967296,281474976710655,281474976710656] : List Int).map intRow)).blk g) (fun _ _ _ _ hr => fun hb => hr.2.apart 0 1 (rowF (cutW w B).heap.size 3 1 (.slice (some ⟨g5,0,none⟩) 11 11) (([0,1,255,256,65535,65536,16777215,4294967295,4294967296,281474976710655,281474976710656] : List Int).map intRow)) (curF B g 100 (.slice A code.length cap) code.length) rfl rfl (by decide) rfl g (rowF_sblk hb) rfl) (fun hk6 => ?_)
 refine kWD 0 [11,12] [] 66 [.pointer (some ⟨g,0,none⟩),.slice (some ⟨g5,0,none⟩) 11 11] (some 13) 1 rfl rfl hlo (l1PickInt_c_K hBw hap (fun ww hw hf => (rowF_sl (hf _ m0))) hk6 (by simp)) ?_
 rintro ⟨y7,hy7⟩
 refine kES [2] [(2,.v (.int .i64 y7))] ?_
 refine kR ?_
 exact ⟨[.int .i64 y7],by kernel_rfl,fun w' hb hf => ⟨⟨y7,trivial⟩,rfl,hf (curF B g 100 (.slice A code.length cap) code.length) (by simp),frF_chgd (hf (frF w (fun b => b = g)) (by simp)) hb rfl rfl rfl⟩⟩
 have h4p := eqF h4
 refine kK ?_
 refine kQ ?_
 refine kWS 1 [14] [(14,.v (.pointer (some ⟨g,0,none⟩)))] 86 [.pointer (some ⟨g,0,none⟩),.int .i64 65536] (some 15) 0 rfl rfl hlo (l1Below_c_K hBw hap) ?_
 rintro ⟨y8,hy8⟩
 obtain ⟨hy80,hy81⟩ := hy8
 refine kES [2] [(2,.v (.int .i64 y8))] ?_
 refine kR ?_
 exact ⟨[.int .i64 y8],by kernel_rfl,fun w' hb hf => ⟨⟨y8,trivial⟩,rfl,hf (curF B g 100 (.slice A code.length cap) code.length) (by simp),frF_chgd (hf (frF w (fun b => b = g)) (by simp)) hb rfl rfl rfl⟩⟩
theorem l2Word_c_K {g : Nat} {code : List Int} {A : Option Addr} {cap : Nat}  {w0 : World} {fs : List Fact} {B : Nat} (hB : B ≤ w0.heap.size) (hap : ¬ (slF (.slice A code.length cap) 1 (code.map byteRow)).blk g)  (hn : code.length ≤ 1048576 := by omega) (h1 : curF B g 100 (.slice A code.length cap) code.length ∈ fs := by simp) (h2 : slF (.slice A code.length cap) 1 (code.map byteRow) ∈ fs := by simp) : XCM Tryz.prog w0 fs (curF B g 100 (.slice A code.length cap) code.length).blk 123 [.pointer (some ⟨g, 0, none⟩)] (α := {y : Int // True}) (fun y => .int .i64 y.1) (fun _ => [curF B g 100 (.slice A code.length cap) code.length]) := xcm_cur fun w hw hf => l2Word_c g code A cap  w B (Nat.le_trans hB hw) (hf _ h1) (hf _ h2) hap hn  
theorem l2Deep_c (g : Nat) (code : List Int) (A : Option Addr) (cap : Nat)  (w : World) (B : Nat) (hB : B ≤ w.heap.size) (hc : (curF B g 100 (.slice A code.length cap) code.length).p w) (hl : Sl w (.slice A code.length cap) 1 (code.map byteRow)) (hap : ¬ (slF (.slice A code.length cap) 1 (code.map byteRow)).blk g) (hn : code.length ≤ 1048576)  : Calls Tryz.prog 126 #[.pointer (some ⟨g, 0, none⟩)] w fun e w' => ∃ y : {y : Int // True}, e = .returned (.int .i64 y.1) ∧ (curF B g 100 (.slice A code.length cap) code.length).p w' ∧ Chgd (fun b => b = g) w w' := by
 have hq_code := Sl.capLe hl
 have hBw : B ≤ (cutW w B).heap.size := Nat.le_of_eq (cutW_size hB).symm
 have hlo : ∀ (ww : World) (b : Nat),(curF B g 100 (.slice A code.length cap) code.length).p ww → (curF B g 100 (.slice A code.length cap) code.length).blk b → (cutW w B).heap.size ≤ b := fun ww b h hb => Nat.le_trans (cutW_le w B) (cur_lo h hb)
 refine x_callsM (args := [.pointer (some ⟨g,0,none⟩)]) (fn := Tryz.f126) [curF B g 100 (.slice A code.length cap) code.length,slF (.slice A code.length cap) 1 (code.map byteRow),frF w (fun b => b = g)] B Tryz.func126 rfl Tryz.ntmps126 rfl hB (by simp only [List.mem_cons,List.not_mem_nil,or_false,forall_eq_or_imp,forall_eq]; exact ⟨hc,hl,frF_start w _⟩) (apart_cur hap rfl) ?_
 refine kQ ?_
 refine kEF [0] ⟨[(0,.v (.pointer (some ⟨g,0,none⟩)))],[],[],[curF B g 100 (.slice A code.length cap) code.length,slF (.slice A code.length cap) 1 (code.map byteRow),frF w (fun b => b = g)]⟩ ?_
 refine kS ?_
 refine kQ ?_
 refine kWD 1 [0,5] [(5,.v (.pointer (some ⟨g,0,none⟩)))] 64 [.pointer (some ⟨g,0,none⟩),.int .i64 3] (some 6) 0 rfl rfl hlo (l1Once_c_K hBw hap) ?_
 rintro ⟨y1,hy1⟩
 refine kED [0,6] [] ?_
 refine kC (y1) (fun h2 => ?_) (fun h2 => ?_)
 refine kQ ?_
 refine kHS 1 [7] [(7,.v (.pointer (some ⟨g,0,none⟩)))] rfl (hv_build (e := 3) (K := 1) (bytes := 8) [.int .i64 0,.int .i64 1,.int .i64 4294967295,.int .i64 2147483647,.int .i64 2147483648,.int .i64 4294967294] rfl (by kernel_rfl) (by kernel_rfl) (by kernel_rfl) (by kernel_rfl) (by kernel_rfl) (rs := ([0,1,4294967295,2147483647,2147483648,4294967294] : List Int).map intRow) rfl) ?_
 intro g3
 refine xl_know (φ := ¬ (slF (.slice (some ⟨g3,0,none⟩) 6 6) 1 (([0,1,4294967295,2147483647,2147483648,4294967294] : List Int).map intRow)).blk g) (fun _ _ _ _ hr => fun hb => hr.2.apart 0 1 (rowF (cutW w B).heap.size 3 1 (.slice (some ⟨g3,0,none⟩) 6 6) (([0,1,4294967295,2147483647,2147483648,4294967294] : List Int).map intRow)) (curF B g 100 (.slice A code.length cap) code.length) rfl rfl (by decide) rfl g (rowF_sblk hb) rfl) (fun hk4 => ?_)
 refine kWD 0 [7,8] [] 66 [.pointer (some ⟨g,0,none⟩),.slice (some ⟨g3,0,none⟩) 6 6] (some 9) 1 rfl rfl hlo (l1PickInt_c_K hBw hap (fun ww hw hf => (rowF_sl (hf _ m0))) hk4 (by simp)) ?_
 rintro ⟨y5,hy5⟩
 refine kES [2] [(2,.v (.int .i64 y5))] ?_
 refine kR ?_
 exact ⟨[.int .i64 y5],by kernel_rfl,fun w' hb hf => ⟨⟨y5,trivial⟩,rfl,hf (curF B g 100 (.slice A code.length cap) code.length) (by simp),frF_chgd (hf (frF w (fun b => b = g)) (by simp)) hb rfl rfl rfl⟩⟩
 refine kK ?_
 refine kQ ?_
 refine kED [0,3] [(3,.v (.int .i64 0))] ?_
 refine kS ?_
 refine kQ ?_
 refine kED [0,3,4] [(4,.v (.int .i64 0))] ?_
 refine xw_block ?_
 refine xw_loopW (α := {x : Nat × Int // (fun (i : Nat) (x : Int) => i ≤ 4) x.1 x.2}) (fun x => (fun (i : Nat) (x : Int) => (⟨[(0,.v (.pointer (some ⟨g,0,none⟩))),(3,.v (.int .i64 x)),(4,.v (.int .i64 (i : Int)))],[],[],[curF B g 100 (.slice A code.length cap) code.length,slF (.slice A code.length cap) 1 (code.map byteRow),frF w (fun b => b = g)]⟩ : St)) x.1.1 x.1.2) (fun x => (fun (i : Nat) (x : Int) => 4 - i) x.1.1 x.1.2) ⟨(0,0),Nat.zero_le _⟩ (kF 0 0 [0,3,4]) ?_
 rintro ⟨⟨i,x⟩,hi⟩
 try dsimp only
 try dsimp only at hi
 refine kS ?_
 refine kQ ?_
 refine kED [0,3,4,11] [(11,.v (.bool (decide ((i : Int) < 4))))] ?_
 refine kC (decide ((i : Int) < 4)) (fun h6 => ?_) (fun h6 => ?_)
 have h6p := of_decide_eq_true h6
 have hlt : i < 4 := by simp at h6; omega
 refine kK ?_
 refine kS ?_
 refine xw_block ?_
 refine kG ?_
 refine kWD 3 [0,3,4,15,16] [(15,.v (.int .i64 (IntKind.i64.wrap (256 * x)))),(16,.v (.pointer (some ⟨g,0,none⟩)))] 118 [.pointer (some ⟨g,0,none⟩)] (some 17) 0 rfl rfl hlo (l1Byte_c_K hBw hap) ?_
 rintro ⟨y7,hy7⟩
 refine kED [0,3,4] [(3,.v (.int .i64 (IntKind.i64.wrap ((IntKind.i64.wrap (256 * x)) + y7))))] ?_
 refine kG ?_
 refine kRS 3 [0,3,4] [(0,.v (.pointer (some ⟨g,0,none⟩))),(3,.v (.int .i64 (IntKind.i64.wrap ((IntKind.i64.wrap (256 * x)) + y7)))),(4,.v (.int .i64 (IntKind.i64.wrap ((i : Int) + 1))))] ?_
 refine xl_eqS (t' := [(0,.v (.pointer (some ⟨g,0,none⟩))),(3,.v (.int .i64 (IntKind.i64.wrap ((IntKind.i64.wrap (256 * x)) + y7)))),(4,.v (.int .i64 ((i : Int) + 1)))]) (by rw [show (IntKind.i64.wrap ((i : Int) + 1)) = ((i : Int) + 1) from wrap_id (by omega) (by omega)]) ?_
 refine kED [0,3,4] [] ?_
 exact ⟨⟨(i + 1,IntKind.i64.wrap ((IntKind.i64.wrap (256 * x)) + y7)),hlt⟩,kF 0 0 [0,3,4],by show (fun (i : Nat) (x : Int) => 4 - i) (i + 1) (IntKind.i64.wrap ((IntKind.i64.wrap (256 * x)) + y7)) < 4 - i; (dsimp only; omega)⟩
 have h6p := of_decide_eq_false h6
 refine xw_exit ?_
 refine kQ ?_
 refine kES [2] [(2,.v (.int .i64 x))] ?_
 refine kR ?_
 exact ⟨[.int .i64 x],by kernel_rfl,fun w' hb hf => ⟨⟨x,trivial⟩,rfl,hf (curF B g 100 (.slice A code.length cap) code.length) (by simp),frF_chgd (hf (frF w (fun b => b = g)) (by simp)) hb rfl rfl rfl⟩⟩
theorem l2Deep_c_K {g : Nat} {code : List Int} {A : Option Addr} {cap : Nat}  {w0 : World} {fs : List Fact} {B : Nat} (hB : B ≤ w0.heap.size) (hap : ¬ (slF (.slice A code.length cap) 1 (code.map byteRow)).blk g)  (hn : code.length ≤ 1048576 := by omega) (h1 : curF B g 100 (.slice A code.length cap) code.length ∈ fs := by simp) (h2 : slF (.slice A code.length cap) 1 (code.map byteRow) ∈ fs := by simp) : XCM Tryz.prog w0 fs (curF B g 100 (.slice A code.length cap) code.length).blk 126 [.pointer (some ⟨g, 0, none⟩)] (α := {y : Int // True}) (fun y => .int .i64 y.1) (fun _ => [curF B g 100 (.slice A code.length cap) code.length]) := xcm_cur fun w hw hf => l2Deep_c g code A cap  w B (Nat.le_trans hB hw) (hf _ h1) (hf _ h2) hap hn  
theorem l4Place_c (g : Nat) (code : List Int) (A : Option Addr) (cap : Nat)  (w : World) (B : Nat) (hB : B ≤ w.heap.size) (hc : (curF B g 100 (.slice A code.length cap) code.length).p w) (hl : Sl w (.slice A code.length cap) 1 (code.map byteRow)) (hap : ¬ (slF (.slice A code.length cap) 1 (code.map byteRow)).blk g) (hn : code.length ≤ 1048576)  : Calls Tryz.prog 133 #[.pointer (some ⟨g, 0, none⟩)] w fun e w' => ∃ y : {y : Int // True}, e = .returned (.int .i64 y.1) ∧ (curF B g 100 (.slice A code.length cap) code.length).p w' ∧ Chgd (fun b => b = g) w w' := by
 have hq_code := Sl.capLe hl
 have hBw : B ≤ (cutW w B).heap.size := Nat.le_of_eq (cutW_size hB).symm
 have hlo : ∀ (ww : World) (b : Nat),(curF B g 100 (.slice A code.length cap) code.length).p ww → (curF B g 100 (.slice A code.length cap) code.length).blk b → (cutW w B).heap.size ≤ b := fun ww b h hb => Nat.le_trans (cutW_le w B) (cur_lo h hb)
 refine x_callsM (args := [.pointer (some ⟨g,0,none⟩)]) (fn := Tryz.f133) [curF B g 100 (.slice A code.length cap) code.length,slF (.slice A code.length cap) 1 (code.map byteRow),frF w (fun b => b = g)] B Tryz.func133 rfl Tryz.ntmps133 rfl hB (by simp only [List.mem_cons,List.not_mem_nil,or_false,forall_eq_or_imp,forall_eq]; exact ⟨hc,hl,frF_start w _⟩) (apart_cur hap rfl) ?_
 refine kQ ?_
 refine kEF [0] ⟨[(0,.v (.pointer (some ⟨g,0,none⟩)))],[],[],[curF B g 100 (.slice A code.length cap) code.length,slF (.slice A code.length cap) 1 (code.map byteRow),frF w (fun b => b = g)]⟩ ?_
 refine kS ?_
 refine kQ ?_
 refine kWD 1 [0,3] [(3,.v (.pointer (some ⟨g,0,none⟩)))] 64 [.pointer (some ⟨g,0,none⟩),.int .i64 12] (some 4) 0 rfl rfl hlo (l1Once_c_K hBw hap) ?_
 rintro ⟨y1,hy1⟩
 refine kED [0,4] [] ?_
 refine kC (y1) (fun h2 => ?_) (fun h2 => ?_)
 refine kQ ?_
 refine kWS 1 [5] [(5,.v (.pointer (some ⟨g,0,none⟩)))] 134 [.pointer (some ⟨g,0,none⟩)] (some 6) 0 rfl rfl hlo (l1Whole_c_K hBw hap) ?_
 rintro ⟨y3,hy3⟩
 refine kES [2] [(2,.v (.int .i64 y3))] ?_
 refine kR ?_
 exact ⟨[.int .i64 y3],by kernel_rfl,fun w' hb hf => ⟨⟨y3,trivial⟩,rfl,hf (curF B g 100 (.slice A code.length cap) code.length) (by simp),frF_chgd (hf (frF w (fun b => b = g)) (by simp)) hb rfl rfl rfl⟩⟩
 refine kK ?_
 refine kQ ?_
 refine kWS 1 [7] [(7,.v (.pointer (some ⟨g,0,none⟩)))] 126 [.pointer (some ⟨g,0,none⟩)] (some 8) 0 rfl rfl hlo (l2Deep_c_K hBw hap) ?_
 rintro ⟨y4,hy4⟩
 refine kES [2] [(2,.v (.int .i64 y4))] ?_
 refine kR ?_
 exact ⟨[.int .i64 y4],by kernel_rfl,fun w' hb hf => ⟨⟨y4,trivial⟩,rfl,hf (curF B g 100 (.slice A code.length cap) code.length) (by simp),frF_chgd (hf (frF w (fun b => b = g)) (by simp)) hb rfl rfl rfl⟩⟩
theorem l4Place_c_K {g : Nat} {code : List Int} {A : Option Addr} {cap : Nat}  {w0 : World} {fs : List Fact} {B : Nat} (hB : B ≤ w0.heap.size) (hap : ¬ (slF (.slice A code.length cap) 1 (code.map byteRow)).blk g)  (hn : code.length ≤ 1048576 := by omega) (h1 : curF B g 100 (.slice A code.length cap) code.length ∈ fs := by simp) (h2 : slF (.slice A code.length cap) 1 (code.map byteRow) ∈ fs := by simp) : XCM Tryz.prog w0 fs (curF B g 100 (.slice A code.length cap) code.length).blk 133 [.pointer (some ⟨g, 0, none⟩)] (α := {y : Int // True}) (fun y => .int .i64 y.1) (fun _ => [curF B g 100 (.slice A code.length cap) code.length]) := xcm_cur fun w hw hf => l4Place_c g code A cap  w B (Nat.le_trans hB hw) (hf _ h1) (hf _ h2) hap hn  
theorem l6Ip_c (g : Nat) (code : List Int) (A : Option Addr) (cap : Nat)  (w : World) (B : Nat) (hB : B ≤ w.heap.size) (hc : (curF B g 100 (.slice A code.length cap) code.length).p w) (hl : Sl w (.slice A code.length cap) 1 (code.map byteRow)) (hap : ¬ (slF (.slice A code.length cap) 1 (code.map byteRow)).blk g) (hn : code.length ≤ 1048576)  : Calls Tryz.prog 136 #[.pointer (some ⟨g, 0, none⟩)] w fun e w' => ∃ y : {y : Int // True}, e = .returned (.int .i64 y.1) ∧ (curF B g 100 (.slice A code.length cap) code.length).p w' ∧ Chgd (fun b => b = g) w w' := by
 have hq_code := Sl.capLe hl
 have hBw : B ≤ (cutW w B).heap.size := Nat.le_of_eq (cutW_size hB).symm
 have hlo : ∀ (ww : World) (b : Nat),(curF B g 100 (.slice A code.length cap) code.length).p ww → (curF B g 100 (.slice A code.length cap) code.length).blk b → (cutW w B).heap.size ≤ b := fun ww b h hb => Nat.le_trans (cutW_le w B) (cur_lo h hb)
 refine x_callsM (args := [.pointer (some ⟨g,0,none⟩)]) (fn := Tryz.f136) [curF B g 100 (.slice A code.length cap) code.length,slF (.slice A code.length cap) 1 (code.map byteRow),frF w (fun b => b = g)] B Tryz.func136 rfl Tryz.ntmps136 rfl hB (by simp only [List.mem_cons,List.not_mem_nil,or_false,forall_eq_or_imp,forall_eq]; exact ⟨hc,hl,frF_start w _⟩) (apart_cur hap rfl) ?_
 refine kQ ?_
 refine kEF [0] ⟨[(0,.v (.pointer (some ⟨g,0,none⟩)))],[],[],[curF B g 100 (.slice A code.length cap) code.length,slF (.slice A code.length cap) 1 (code.map byteRow),frF w (fun b => b = g)]⟩ ?_
 refine kQ ?_
 refine kHS 1 [3] [(3,.v (.pointer (some ⟨g,0,none⟩)))] rfl (hv_build (e := 3) (K := 1) (bytes := 8) [.int .i64 167772161,.int .i64 167772162,.int .i64 167772163,.int .i64 0,.int .i64 4294967295] rfl (by kernel_rfl) (by kernel_rfl) (by kernel_rfl) (by kernel_rfl) (by kernel_rfl) (rs := ([167772161,167772162,167772163,0,4294967295] : List Int).map intRow) rfl) ?_
 intro g1
 refine xl_know (φ := ¬ (slF (.slice (some ⟨g1,0,none⟩) 5 5) 1 (([167772161,167772162,167772163,0,4294967295] : List Int).map intRow)).blk g) (fun _ _ _ _ hr => fun hb => hr.2.apart 0 1 (rowF (cutW w B).heap.size 3 1 (.slice (some ⟨g1,0,none⟩) 5 5) (([167772161,167772162,167772163,0,4294967295] : List Int).map intRow)) (curF B g 100 (.slice A code.length cap) code.length) rfl rfl (by decide) rfl g (rowF_sblk hb) rfl) (fun hk2 => ?_)
 refine kWD 0 [3,4] [] 66 [.pointer (some ⟨g,0,none⟩),.slice (some ⟨g1,0,none⟩) 5 5] (some 5) 1 rfl rfl hlo (l1PickInt_c_K hBw hap (fun ww hw hf => (rowF_sl (hf _ m0))) hk2 (by simp)) ?_
 rintro ⟨y3,hy3⟩
 refine kES [2] [(2,.v (.int .i64 y3))] ?_
 refine kR ?_
 exact ⟨[.int .i64 y3],by kernel_rfl,fun w' hb hf => ⟨⟨y3,trivial⟩,rfl,hf (curF B g 100 (.slice A code.length cap) code.length) (by simp),frF_chgd (hf (frF w (fun b => b = g)) (by simp)) hb rfl rfl rfl⟩⟩
theorem l6Ip_c_K {g : Nat} {code : List Int} {A : Option Addr} {cap : Nat}  {w0 : World} {fs : List Fact} {B : Nat} (hB : B ≤ w0.heap.size) (hap : ¬ (slF (.slice A code.length cap) 1 (code.map byteRow)).blk g)  (hn : code.length ≤ 1048576 := by omega) (h1 : curF B g 100 (.slice A code.length cap) code.length ∈ fs := by simp) (h2 : slF (.slice A code.length cap) 1 (code.map byteRow) ∈ fs := by simp) : XCM Tryz.prog w0 fs (curF B g 100 (.slice A code.length cap) code.length).blk 136 [.pointer (some ⟨g, 0, none⟩)] (α := {y : Int // True}) (fun y => .int .i64 y.1) (fun _ => [curF B g 100 (.slice A code.length cap) code.length]) := xcm_cur fun w hw hf => l6Ip_c g code A cap  w B (Nat.le_trans hB hw) (hf _ h1) (hf _ h2) hap hn  
theorem l8Options_c (g : Nat) (code : List Int) (A : Option Addr) (cap : Nat)  (w : World) (B : Nat) (hB : B ≤ w.heap.size) (hc : (curF B g 100 (.slice A code.length cap) code.length).p w) (hl : Sl w (.slice A code.length cap) 1 (code.map byteRow)) (hap : ¬ (slF (.slice A code.length cap) 1 (code.map byteRow)).blk g) (hn : code.length ≤ 1048576)  : Calls Tryz.prog 127 #[.pointer (some ⟨g, 0, none⟩)] w fun e w' => ∃ y : {y : Opt // True}, e = .returned (.agg (optL y.1).toArray) ∧ (curF B g 100 (.slice A code.length cap) code.length).p w' ∧ Chgd (fun b => b = g) w w' := by
 have hq_code := Sl.capLe hl
 have hBw : B ≤ (cutW w B).heap.size := Nat.le_of_eq (cutW_size hB).symm
 have hlo : ∀ (ww : World) (b : Nat),(curF B g 100 (.slice A code.length cap) code.length).p ww → (curF B g 100 (.slice A code.length cap) code.length).blk b → (cutW w B).heap.size ≤ b := fun ww b h hb => Nat.le_trans (cutW_le w B) (cur_lo h hb)
 refine x_callsM (args := [.pointer (some ⟨g,0,none⟩)]) (fn := Tryz.f127) [curF B g 100 (.slice A code.length cap) code.length,slF (.slice A code.length cap) 1 (code.map byteRow),frF w (fun b => b = g)] B Tryz.func127 rfl Tryz.ntmps127 rfl hB (by simp only [List.mem_cons,List.not_mem_nil,or_false,forall_eq_or_imp,forall_eq]; exact ⟨hc,hl,frF_start w _⟩) (apart_cur hap rfl) ?_
 refine kQ ?_
 refine kEF [0,2] ⟨[(0,.v (.pointer (some ⟨g,0,none⟩))),(2,.p 0 0)],[⟨32,[.int .i64 0,.int .i64 0,.bool false,.bool false,.int .i64 0,.int .i64 0]⟩],[],[curF B g 100 (.slice A code.length cap) code.length,slF (.slice A code.length cap) 1 (code.map byteRow),frF w (fun b => b = g)]⟩ ?_
 refine kQ ?_
 refine kCD 0 [0,2] [] 117 [] (some 4) rfl (xc_b fun ww hf => sNoOptions_c  ww ) ?_
 intro _
 refine kEA [0,2,3] [(3,.p 1 0)] [⟨32,[.int .i64 0,.int .i64 (-1),.bool false,.bool false,.int .i64 0,.int .i64 0]⟩] ?_
 refine kS ?_
 refine kQ ?_
 refine kWD 1 [0,2,3,5] [(5,.v (.pointer (some ⟨g,0,none⟩)))] 64 [.pointer (some ⟨g,0,none⟩),.int .i64 3] (some 6) 0 rfl rfl hlo (l1Once_c_K hBw hap) ?_
 rintro ⟨y1,hy1⟩
 refine kED [0,2,3,7] [(7,.v (.bool (!y1)))] ?_
 refine kC (!y1) (fun h2 => ?_) (fun h2 => ?_)
 have h2n := not_t h2
 refine kG ?_
 refine kHD 1 [0,2,3,8] [(8,.v (.pointer (some ⟨g,0,none⟩)))] rfl (hv_build (e := 3) (K := 1) (bytes := 8) [.int .i64 536,.int .i64 1460,.int .i64 1300,.int .i64 64,.int .i64 65535,.int .i64 1] rfl (by kernel_rfl) (by kernel_rfl) (by kernel_rfl) (by kernel_rfl) (by kernel_rfl) (rs := ([536,1460,1300,64,65535,1] : List Int).map intRow) rfl) ?_
 intro g3
 refine xl_know (φ := ¬ (slF (.slice (some ⟨g3,0,none⟩) 6 6) 1 (([536,1460,1300,64,65535,1] : List Int).map intRow)).blk g) (fun _ _ _ _ hr => fun hb => hr.2.apart 0 1 (rowF (cutW w B).heap.size 3 1 (.slice (some ⟨g3,0,none⟩) 6 6) (([536,1460,1300,64,65535,1] : List Int).map intRow)) (curF B g 100 (.slice A code.length cap) code.length) rfl rfl (by decide) rfl g (rowF_sblk hb) rfl) (fun hk4 => ?_)
 refine kWD 0 [0,2,3,8,9] [] 66 [.pointer (some ⟨g,0,none⟩),.slice (some ⟨g3,0,none⟩) 6 6] (some 10) 1 rfl rfl hlo (l1PickInt_c_K hBw hap (fun ww hw hf => (rowF_sl (hf _ m0))) hk4 (by simp)) ?_
 rintro ⟨y5,hy5⟩
 refine kEU [0,2,3] [] 1 ⟨32,[.int .i64 y5,.int .i64 (-1),.bool false,.bool false,.int .i64 0,.int .i64 0]⟩ ?_
 refine kS ?_
 refine kQ ?_
 refine kWD 1 [0,2,3,12] [(12,.v (.pointer (some ⟨g,0,none⟩)))] 64 [.pointer (some ⟨g,0,none⟩),.int .i64 2] (some 13) 0 rfl rfl hlo (l1Once_c_K hBw hap) ?_
 rintro ⟨y6,hy6⟩
 refine kED [0,2,3,13] [] ?_
 refine kC (y6) (fun h7 => ?_) (fun h7 => ?_)
 refine kG ?_
 refine kWD 1 [0,2,3,14] [(14,.v (.pointer (some ⟨g,0,none⟩)))] 86 [.pointer (some ⟨g,0,none⟩),.int .i64 15] (some 15) 0 rfl rfl hlo (l1Below_c_K hBw hap) ?_
 rintro ⟨y8,hy8⟩
 obtain ⟨hy80,hy81⟩ := hy8
 refine kEF [0,2,3] ⟨[(0,.v (.pointer (some ⟨g,0,none⟩))),(2,.p 0 0),(3,.p 1 0)],[⟨32,[.int .i64 0,.int .i64 0,.bool false,.bool false,.int .i64 0,.int .i64 0]⟩,⟨32,[.int .i64 y5,.int .i64 y8,.bool false,.bool false,.int .i64 0,.int .i64 0]⟩],[],[curF B g 100 (.slice A code.length cap) code.length,rowF (cutW w B).heap.size 3 1 (.slice (some ⟨g3,0,none⟩) 6 6) (([536,1460,1300,64,65535,1] : List Int).map intRow),slF (.slice A code.length cap) 1 (code.map byteRow),frF w (fun b => b = g)]⟩ ?_
 refine kQ ?_
 refine kWD 1 [0,2,3,17] [(17,.v (.pointer (some ⟨g,0,none⟩)))] 64 [.pointer (some ⟨g,0,none⟩),.int .i64 2] (some 18) 0 rfl rfl hlo (l1Once_c_K hBw hap) ?_
 rintro ⟨y9,hy9⟩
 refine kEU [0,2,3] [] 1 ⟨32,[.int .i64 y5,.int .i64 y8,.bool y9,.bool false,.int .i64 0,.int .i64 0]⟩ ?_
 refine kS ?_
 refine kQ ?_
 refine kWD 1 [0,2,3,20] [(20,.v (.pointer (some ⟨g,0,none⟩)))] 64 [.pointer (some ⟨g,0,none⟩),.int .i64 2] (some 21) 0 rfl rfl hlo (l1Once_c_K hBw hap) ?_
 rintro ⟨y10,hy10⟩
 refine kED [0,2,3,21] [] ?_
 refine kC (y10) (fun h11 => ?_) (fun h11 => ?_)
 refine kQ ?_
 refine kEU [0,2,3] [] 1 ⟨32,[.int .i64 y5,.int .i64 y8,.bool y9,.bool true,.int .i64 0,.int .i64 0]⟩ ?_
 refine kQ ?_
 refine kWD 1 [0,2,3,23] [(23,.v (.pointer (some ⟨g,0,none⟩)))] 126 [.pointer (some ⟨g,0,none⟩)] (some 24) 0 rfl rfl hlo (l2Deep_c_K hBw hap) ?_
 rintro ⟨y12,hy12⟩
 refine kEU [0,2,3] [] 1 ⟨32,[.int .i64 y5,.int .i64 y8,.bool y9,.bool true,.int .i64 y12,.int .i64 0]⟩ ?_
 refine kG ?_
 refine kWD 1 [2,3,26] [(26,.v (.pointer (some ⟨g,0,none⟩)))] 126 [.pointer (some ⟨g,0,none⟩)] (some 27) 0 rfl rfl hlo (l2Deep_c_K hBw hap) ?_
 rintro ⟨y13,hy13⟩
 refine kEU [2,3] [] 1 ⟨32,[.int .i64 y5,.int .i64 y8,.bool y9,.bool true,.int .i64 y12,.int .i64 y13]⟩ ?_
 refine kQ ?_
 refine kEU [2] [(2,.p 0 0)] 0 ⟨32,[.int .i64 y5,.int .i64 y8,.bool y9,.bool true,.int .i64 y12,.int .i64 y13]⟩ ?_
 refine kR ?_
 exact ⟨[.agg #[.int .i64 y5,.int .i64 y8,.bool y9,.bool true,.int .i64 y12,.int .i64 y13]],by kernel_rfl,fun w' hb hf => ⟨⟨⟨y5,y8,y9,true,y12,y13⟩,trivial⟩,rfl,hf (curF B g 100 (.slice A code.length cap) code.length) (by simp),frF_chgd (hf (frF w (fun b => b = g)) (by simp)) hb rfl rfl rfl⟩⟩
 refine kK ?_
 refine kQ ?_
 refine kEU [2] [(2,.p 0 0)] 0 ⟨32,[.int .i64 y5,.int .i64 y8,.bool y9,.bool false,.int .i64 0,.int .i64 0]⟩ ?_
 refine kR ?_
 exact ⟨[.agg #[.int .i64 y5,.int .i64 y8,.bool y9,.bool false,.int .i64 0,.int .i64 0]],by kernel_rfl,fun w' hb hf => ⟨⟨⟨y5,y8,y9,false,0,0⟩,trivial⟩,rfl,hf (curF B g 100 (.slice A code.length cap) code.length) (by simp),frF_chgd (hf (frF w (fun b => b = g)) (by simp)) hb rfl rfl rfl⟩⟩
 refine kK ?_
 refine kQ ?_
 refine kWD 1 [0,2,3,17] [(17,.v (.pointer (some ⟨g,0,none⟩)))] 64 [.pointer (some ⟨g,0,none⟩),.int .i64 2] (some 18) 0 rfl rfl hlo (l1Once_c_K hBw hap) ?_
 rintro ⟨y14,hy14⟩
 refine kEF [0,2,3] ⟨[(0,.v (.pointer (some ⟨g,0,none⟩))),(2,.p 0 0),(3,.p 1 0)],[⟨32,[.int .i64 0,.int .i64 0,.bool false,.bool false,.int .i64 0,.int .i64 0]⟩,⟨32,[.int .i64 y5,.int .i64 (-1),.bool y14,.bool false,.int .i64 0,.int .i64 0]⟩],[],[curF B g 100 (.slice A code.length cap) code.length,rowF (cutW w B).heap.size 3 1 (.slice (some ⟨g3,0,none⟩) 6 6) (([536,1460,1300,64,65535,1] : List Int).map intRow),slF (.slice A code.length cap) 1 (code.map byteRow),frF w (fun b => b = g)]⟩ ?_
 refine kS ?_
 refine kQ ?_
 refine kWD 1 [0,2,3,20] [(20,.v (.pointer (some ⟨g,0,none⟩)))] 64 [.pointer (some ⟨g,0,none⟩),.int .i64 2] (some 21) 0 rfl rfl hlo (l1Once_c_K hBw hap) ?_
 rintro ⟨y15,hy15⟩
 refine kED [0,2,3,21] [] ?_
 refine kC (y15) (fun h16 => ?_) (fun h16 => ?_)
 refine kQ ?_
 refine kEU [0,2,3] [] 1 ⟨32,[.int .i64 y5,.int .i64 (-1),.bool y14,.bool true,.int .i64 0,.int .i64 0]⟩ ?_
 refine kQ ?_
 refine kWD 1 [0,2,3,23] [(23,.v (.pointer (some ⟨g,0,none⟩)))] 126 [.pointer (some ⟨g,0,none⟩)] (some 24) 0 rfl rfl hlo (l2Deep_c_K hBw hap) ?_
 rintro ⟨y17,hy17⟩
 refine kEU [0,2,3] [] 1 ⟨32,[.int .i64 y5,.int .i64 (-1),.bool y14,.bool true,.int .i64 y17,.int .i64 0]⟩ ?_
 refine kG ?_
 refine kWD 1 [2,3,26] [(26,.v (.pointer (some ⟨g,0,none⟩)))] 126 [.pointer (some ⟨g,0,none⟩)] (some 27) 0 rfl rfl hlo (l2Deep_c_K hBw hap) ?_
 rintro ⟨y18,hy18⟩
 refine kEU [2,3] [] 1 ⟨32,[.int .i64 y5,.int .i64 (-1),.bool y14,.bool true,.int .i64 y17,.int .i64 y18]⟩ ?_
 refine kQ ?_
 refine kEU [2] [(2,.p 0 0)] 0 ⟨32,[.int .i64 y5,.int .i64 (-1),.bool y14,.bool true,.int .i64 y17,.int .i64 y18]⟩ ?_
 refine kR ?_
 exact ⟨[.agg #[.int .i64 y5,.int .i64 (-1),.bool y14,.bool true,.int .i64 y17,.int .i64 y18]],by kernel_rfl,fun w' hb hf => ⟨⟨⟨y5,(-1),y14,true,y17,y18⟩,trivial⟩,rfl,hf (curF B g 100 (.slice A code.length cap) code.length) (by simp),frF_chgd (hf (frF w (fun b => b = g)) (by simp)) hb rfl rfl rfl⟩⟩
 refine kK ?_
 refine kQ ?_
 refine kEU [2] [(2,.p 0 0)] 0 ⟨32,[.int .i64 y5,.int .i64 (-1),.bool y14,.bool false,.int .i64 0,.int .i64 0]⟩ ?_
 refine kR ?_
 exact ⟨[.agg #[.int .i64 y5,.int .i64 (-1),.bool y14,.bool false,.int .i64 0,.int .i64 0]],by kernel_rfl,fun w' hb hf => ⟨⟨⟨y5,(-1),y14,false,0,0⟩,trivial⟩,rfl,hf (curF B g 100 (.slice A code.length cap) code.length) (by simp),frF_chgd (hf (frF w (fun b => b = g)) (by simp)) hb rfl rfl rfl⟩⟩
 have h2n := not_f h2
 refine kK ?_
 refine kS ?_
 refine kQ ?_
 refine kWD 1 [0,2,3,12] [(12,.v (.pointer (some ⟨g,0,none⟩)))] 64 [.pointer (some ⟨g,0,none⟩),.int .i64 2] (some 13) 0 rfl rfl hlo (l1Once_c_K hBw hap) ?_
 rintro ⟨y19,hy19⟩
 refine kED [0,2,3,13] [] ?_
 refine kC (y19) (fun h20 => ?_) (fun h20 => ?_)
 refine kG ?_
 refine kWD 1 [0,2,3,14] [(14,.v (.pointer (some ⟨g,0,none⟩)))] 86 [.pointer (some ⟨g,0,none⟩),.int .i64 15] (some 15) 0 rfl rfl hlo (l1Below_c_K hBw hap) ?_
 rintro ⟨y21,hy21⟩
 obtain ⟨hy210,hy211⟩ := hy21
 refine kEU [0,2,3] [] 1 ⟨32,[.int .i64 0,.int .i64 y21,.bool false,.bool false,.int .i64 0,.int .i64 0]⟩ ?_
 refine kQ ?_
 refine kWD 1 [0,2,3,17] [(17,.v (.pointer (some ⟨g,0,none⟩)))] 64 [.pointer (some ⟨g,0,none⟩),.int .i64 2] (some 18) 0 rfl rfl hlo (l1Once_c_K hBw hap) ?_
 rintro ⟨y22,hy22⟩
 refine kEU [0,2,3] [] 1 ⟨32,[.int .i64 0,.int .i64 y21,.bool y22,.bool false,.int .i64 0,.int .i64 0]⟩ ?_
 refine kS ?_
 refine kQ ?_
 refine kWS 1 [0,2,3,20] [(0,.v (.pointer (some ⟨g,0,none⟩))),(2,.p 0 0),(3,.p 1 0),(20,.v (.pointer (some ⟨g,0,none⟩)))] 64 [.pointer (some ⟨g,0,none⟩),.int .i64 2] (some 21) 0 rfl rfl hlo (l1Once_c_K hBw hap) ?_
 rintro ⟨y23,hy23⟩
 refine kED [0,2,3,21] [] ?_
 refine kC (y23) (fun h24 => ?_) (fun h24 => ?_)
 refine kQ ?_
 refine kEU [0,2,3] [] 1 ⟨32,[.int .i64 0,.int .i64 y21,.bool y22,.bool true,.int .i64 0,.int .i64 0]⟩ ?_
 refine kQ ?_
 refine kWD 1 [0,2,3,23] [(23,.v (.pointer (some ⟨g,0,none⟩)))] 126 [.pointer (some ⟨g,0,none⟩)] (some 24) 0 rfl rfl hlo (l2Deep_c_K hBw hap) ?_
 rintro ⟨y25,hy25⟩
 refine kEU [0,2,3] [] 1 ⟨32,[.int .i64 0,.int .i64 y21,.bool y22,.bool true,.int .i64 y25,.int .i64 0]⟩ ?_
 refine kG ?_
 refine kWD 1 [2,3,26] [(26,.v (.pointer (some ⟨g,0,none⟩)))] 126 [.pointer (some ⟨g,0,none⟩)] (some 27) 0 rfl rfl hlo (l2Deep_c_K hBw hap) ?_
 rintro ⟨y26,hy26⟩
 refine kEU [2,3] [] 1 ⟨32,[.int .i64 0,.int .i64 y21,.bool y22,.bool true,.int .i64 y25,.int .i64 y26]⟩ ?_
 refine kQ ?_
 refine kEU [2] [(2,.p 0 0)] 0 ⟨32,[.int .i64 0,.int .i64 y21,.bool y22,.bool true,.int .i64 y25,.int .i64 y26]⟩ ?_
 refine kR ?_
 exact ⟨[.agg #[.int .i64 0,.int .i64 y21,.bool y22,.bool true,.int .i64 y25,.int .i64 y26]],by kernel_rfl,fun w' hb hf => ⟨⟨⟨0,y21,y22,true,y25,y26⟩,trivial⟩,rfl,hf (curF B g 100 (.slice A code.length cap) code.length) (by simp),frF_chgd (hf (frF w (fun b => b = g)) (by simp)) hb rfl rfl rfl⟩⟩
 refine kK ?_
 refine kQ ?_
 refine kEU [2] [(2,.p 0 0)] 0 ⟨32,[.int .i64 0,.int .i64 y21,.bool y22,.bool false,.int .i64 0,.int .i64 0]⟩ ?_
 refine kR ?_
 exact ⟨[.agg #[.int .i64 0,.int .i64 y21,.bool y22,.bool false,.int .i64 0,.int .i64 0]],by kernel_rfl,fun w' hb hf => ⟨⟨⟨0,y21,y22,false,0,0⟩,trivial⟩,rfl,hf (curF B g 100 (.slice A code.length cap) code.length) (by simp),frF_chgd (hf (frF w (fun b => b = g)) (by simp)) hb rfl rfl rfl⟩⟩
 refine kK ?_
 refine kQ ?_
 refine kWD 1 [0,2,3,17] [(17,.v (.pointer (some ⟨g,0,none⟩)))] 64 [.pointer (some ⟨g,0,none⟩),.int .i64 2] (some 18) 0 rfl rfl hlo (l1Once_c_K hBw hap) ?_
 rintro ⟨y27,hy27⟩
 refine kEU [0,2,3] [] 1 ⟨32,[.int .i64 0,.int .i64 (-1),.bool y27,.bool false,.int .i64 0,.int .i64 0]⟩ ?_
 refine kS ?_
 refine kQ ?_
 refine kWD 1 [0,2,3,20] [(20,.v (.pointer (some ⟨g,0,none⟩)))] 64 [.pointer (some ⟨g,0,none⟩),.int .i64 2] (some 21) 0 rfl rfl hlo (l1Once_c_K hBw hap) ?_
 rintro ⟨y28,hy28⟩
 refine kED [0,2,3,21] [] ?_
 refine kC (y28) (fun h29 => ?_) (fun h29 => ?_)
 refine kQ ?_
 refine kEF [0,2,3] ⟨[(0,.v (.pointer (some ⟨g,0,none⟩))),(2,.p 0 0),(3,.p 1 0)],[⟨32,[.int .i64 0,.int .i64 0,.bool false,.bool false,.int .i64 0,.int .i64 0]⟩,⟨32,[.int .i64 0,.int .i64 (-1),.bool y27,.bool true,.int .i64 0,.int .i64 0]⟩],[],[curF B g 100 (.slice A code.length cap) code.length,slF (.slice A code.length cap) 1 (code.map byteRow),frF w (fun b => b = g)]⟩ ?_
 refine kQ ?_
 refine kWD 1 [0,2,3,23] [(23,.v (.pointer (some ⟨g,0,none⟩)))] 126 [.pointer (some ⟨g,0,none⟩)] (some 24) 0 rfl rfl hlo (l2Deep_c_K hBw hap) ?_
 rintro ⟨y30,hy30⟩
 refine kEU [0,2,3] [] 1 ⟨32,[.int .i64 0,.int .i64 (-1),.bool y27,.bool true,.int .i64 y30,.int .i64 0]⟩ ?_
 refine kG ?_
 refine kWD 1 [2,3,26] [(26,.v (.pointer (some ⟨g,0,none⟩)))] 126 [.pointer (some ⟨g,0,none⟩)] (some 27) 0 rfl rfl hlo (l2Deep_c_K hBw hap) ?_
 rintro ⟨y31,hy31⟩
 refine kEU [2,3] [] 1 ⟨32,[.int .i64 0,.int .i64 (-1),.bool y27,.bool true,.int .i64 y30,.int .i64 y31]⟩ ?_
 refine kQ ?_
 refine kEU [2] [(2,.p 0 0)] 0 ⟨32,[.int .i64 0,.int .i64 (-1),.bool y27,.bool true,.int .i64 y30,.int .i64 y31]⟩ ?_
 refine kR ?_
 exact ⟨[.agg #[.int .i64 0,.int .i64 (-1),.bool y27,.bool true,.int .i64 y30,.int .i64 y31]],by kernel_rfl,fun w' hb hf => ⟨⟨⟨0,(-1),y27,true,y30,y31⟩,trivial⟩,rfl,hf (curF B g 100 (.slice A code.length cap) code.length) (by simp),frF_chgd (hf (frF w (fun b => b = g)) (by simp)) hb rfl rfl rfl⟩⟩
 refine kK ?_
 refine kQ ?_
 refine kEF [2] ⟨[(2,.p 0 0)],[⟨32,[.int .i64 0,.int .i64 (-1),.bool y27,.bool false,.int .i64 0,.int .i64 0]⟩,⟨32,[.int .i64 0,.int .i64 (-1),.bool y27,.bool false,.int .i64 0,.int .i64 0]⟩],[],[curF B g 100 (.slice A code.length cap) code.length,slF (.slice A code.length cap) 1 (code.map byteRow),frF w (fun b => b = g)]⟩ ?_
 refine kR ?_
 exact ⟨[.agg #[.int .i64 0,.int .i64 (-1),.bool y27,.bool false,.int .i64 0,.int .i64 0]],by kernel_rfl,fun w' hb hf => ⟨⟨⟨0,(-1),y27,false,0,0⟩,trivial⟩,rfl,hf (curF B g 100 (.slice A code.length cap) code.length) (by simp),frF_chgd (hf (frF w (fun b => b = g)) (by simp)) hb rfl rfl rfl⟩⟩
theorem l8Options_c_K {g : Nat} {code : List Int} {A : Option Addr} {cap : Nat}  {w0 : World} {fs : List Fact} {B : Nat} (hB : B ≤ w0.heap.size) (hap : ¬ (slF (.slice A code.length cap) 1 (code.map byteRow)).blk g)  (hn : code.length ≤ 1048576 := by omega) (h1 : curF B g 100 (.slice A code.length cap) code.length ∈ fs := by simp) (h2 : slF (.slice A code.length cap) 1 (code.map byteRow) ∈ fs := by simp) : XCM Tryz.prog w0 fs (curF B g 100 (.slice A code.length cap) code.length).blk 127 [.pointer (some ⟨g, 0, none⟩)] (α := {y : Opt // True}) (fun y => .agg (optL y.1).toArray) (fun _ => [curF B g 100 (.slice A code.length cap) code.length]) := xcm_cur fun w hw hf => l8Options_c g code A cap  w B (Nat.le_trans hB hw) (hf _ h1) (hf _ h2) hap hn  
theorem l8Bent_c (g : Nat) (code : List Int) (A : Option Addr) (cap : Nat)  (w : World) (B : Nat) (hB : B ≤ w.heap.size) (hc : (curF B g 100 (.slice A code.length cap) code.length).p w) (hl : Sl w (.slice A code.length cap) 1 (code.map byteRow)) (hap : ¬ (slF (.slice A code.length cap) 1 (code.map byteRow)).blk g) (hn : code.length ≤ 1048576)  : Calls Tryz.prog 110 #[.pointer (some ⟨g, 0, none⟩)] w fun e w' => ∃ y : {y : Opt // True}, e = .returned (.agg (optL y.1).toArray) ∧ (curF B g 100 (.slice A code.length cap) code.length).p w' ∧ Chgd (fun b => b = g) w w' := by
 have hq_code := Sl.capLe hl
 have hBw : B ≤ (cutW w B).heap.size := Nat.le_of_eq (cutW_size hB).symm
 have hlo : ∀ (ww : World) (b : Nat),(curF B g 100 (.slice A code.length cap) code.length).p ww → (curF B g 100 (.slice A code.length cap) code.length).blk b → (cutW w B).heap.size ≤ b := fun ww b h hb => Nat.le_trans (cutW_le w B) (cur_lo h hb)
 refine x_callsM (args := [.pointer (some ⟨g,0,none⟩)]) (fn := Tryz.f110) [curF B g 100 (.slice A code.length cap) code.length,slF (.slice A code.length cap) 1 (code.map byteRow),frF w (fun b => b = g)] B Tryz.func110 rfl Tryz.ntmps110 rfl hB (by simp only [List.mem_cons,List.not_mem_nil,or_false,forall_eq_or_imp,forall_eq]; exact ⟨hc,hl,frF_start w _⟩) (apart_cur hap rfl) ?_
 refine kQ ?_
 refine kEF [0,2] ⟨[(0,.v (.pointer (some ⟨g,0,none⟩))),(2,.p 0 0)],[⟨32,[.int .i64 0,.int .i64 0,.bool false,.bool false,.int .i64 0,.int .i64 0]⟩],[],[curF B g 100 (.slice A code.length cap) code.length,slF (.slice A code.length cap) 1 (code.map byteRow),frF w (fun b => b = g)]⟩ ?_
 refine kQ ?_
 refine kWD 1 [0,2,4] [(4,.v (.pointer (some ⟨g,0,none⟩)))] 127 [.pointer (some ⟨g,0,none⟩)] (some 5) 0 rfl rfl hlo (l8Options_c_K hBw hap) ?_
 rintro ⟨y1,hy1⟩
 refine kEA [0,2,3] [(3,.p 1 0)] [⟨32,optL y1⟩] ?_
 refine kS ?_
 refine kQ ?_
 refine kWD 1 [0,2,3,6] [(6,.v (.pointer (some ⟨g,0,none⟩)))] 86 [.pointer (some ⟨g,0,none⟩),.int .i64 10] (some 7) 0 rfl rfl hlo (l1Below_c_K hBw hap) ?_
 rintro ⟨y2,hy2⟩
 obtain ⟨hy20,hy21⟩ := hy2
 refine kED [0,2,3,7] [] ?_
 refine xw_block ?_
 refine kQ ?_
 refine kED [0,2,3,7,8] [(8,.v (.bool (y2 == 0)))] ?_
 refine kC (y2 == 0) (fun h3 => ?_) (fun h3 => ?_)
 have h3p := eqT h3
 refine kG ?_
 refine kWD 1 [2,3,10] [(10,.v (.pointer (some ⟨g,0,none⟩)))] 123 [.pointer (some ⟨g,0,none⟩)] (some 11) 0 rfl rfl hlo (l2Word_c_K hBw hap) ?_
 rintro ⟨y4,hy4⟩
 refine kEU [2,3] [] 1 ⟨32,optL { y1 with mss := y4 }⟩ ?_
 refine kQ ?_
 refine kEU [2] [(2,.p 0 0)] 0 ⟨32,optL { y1 with mss := y4 }⟩ ?_
 refine kR ?_
 exact ⟨[.agg (optL { y1 with mss := y4 }).toArray],by kernel_rfl,fun w' hb hf => ⟨⟨{ y1 with mss := y4 },trivial⟩,rfl,hf (curF B g 100 (.slice A code.length cap) code.length) (by simp),frF_chgd (hf (frF w (fun b => b = g)) (by simp)) hb rfl rfl rfl⟩⟩
 have h3p := eqF h3
 refine kQ ?_
 refine kED [0,2,3,7,13] [(13,.v (.bool (y2 == 1)))] ?_
 refine kC (y2 == 1) (fun h5 => ?_) (fun h5 => ?_)
 have h5p := eqT h5
 refine kG ?_
 refine kHD 1 [2,3,15] [(15,.v (.pointer (some ⟨g,0,none⟩)))] rfl (hv_build (e := 3) (K := 1) (bytes := 8) [.int .i64 (-2),.int .i64 (-1),.int .i64 14,.int .i64 15] rfl (by kernel_rfl) (by kernel_rfl) (by kernel_rfl) (by kernel_rfl) (by kernel_rfl) (rs := ([(-2),(-1),14,15] : List Int).map intRow) rfl) ?_
 intro g6
 refine xl_know (φ := ¬ (slF (.slice (some ⟨g6,0,none⟩) 4 4) 1 (([(-2),(-1),14,15] : List Int).map intRow)).blk g) (fun _ _ _ _ hr => fun hb => hr.2.apart 0 1 (rowF (cutW w B).heap.size 3 1 (.slice (some ⟨g6,0,none⟩) 4 4) (([(-2),(-1),14,15] : List Int).map intRow)) (curF B g 100 (.slice A code.length cap) code.length) rfl rfl (by decide) rfl g (rowF_sblk hb) rfl) (fun hk7 => ?_)
 refine kWD 0 [2,3,15,16] [] 66 [.pointer (some ⟨g,0,none⟩),.slice (some ⟨g6,0,none⟩) 4 4] (some 17) 1 rfl rfl hlo (l1PickInt_c_K hBw hap (fun ww hw hf => (rowF_sl (hf _ m0))) hk7 (by simp)) ?_
 rintro ⟨y8,hy8⟩
 refine kEU [2,3] [] 1 ⟨32,optL { y1 with scale := y8 }⟩ ?_
 refine kQ ?_
 refine kEU [2] [(2,.p 0 0)] 0 ⟨32,optL { y1 with scale := y8 }⟩ ?_
 refine kR ?_
 exact ⟨[.agg (optL { y1 with scale := y8 }).toArray],by kernel_rfl,fun w' hb hf => ⟨⟨{ y1 with scale := y8 },trivial⟩,rfl,hf (curF B g 100 (.slice A code.length cap) code.length) (by simp),frF_chgd (hf (frF w (fun b => b = g)) (by simp)) hb rfl rfl rfl⟩⟩
 have h5p := eqF h5
 refine kQ ?_
 refine kED [0,2,3,7,19] [(19,.v (.bool (y2 == 2)))] ?_
 refine kC (y2 == 2) (fun h9 => ?_) (fun h9 => ?_)
 have h9p := eqT h9
 refine kG ?_
 refine kEU [2,3] [] 1 ⟨32,optL { y1 with stamp := !y1.stamp }⟩ ?_
 refine kQ ?_
 refine kEU [2] [(2,.p 0 0)] 0 ⟨32,optL { y1 with stamp := !y1.stamp }⟩ ?_
 refine kR ?_
 exact ⟨[.agg (optL { y1 with stamp := !y1.stamp }).toArray],by kernel_rfl,fun w' hb hf => ⟨⟨{ y1 with stamp := !y1.stamp },trivial⟩,rfl,hf (curF B g 100 (.slice A code.length cap) code.length) (by simp),frF_chgd (hf (frF w (fun b => b = g)) (by simp)) hb rfl rfl rfl⟩⟩
 have h9p := eqF h9
 refine kQ ?_
 refine kED [0,2,3,25] [(25,.v (.bool (y2 == 3)))] ?_
 refine kC (y2 == 3) (fun h10 => ?_) (fun h10 => ?_)
 have h10p := eqT h10
 refine kG ?_
 refine kWD 1 [2,3,27] [(27,.v (.pointer (some ⟨g,0,none⟩)))] 123 [.pointer (some ⟨g,0,none⟩)] (some 28) 0 rfl rfl hlo (l2Word_c_K hBw hap) ?_
 rintro ⟨y11,hy11⟩
 refine kEU [2,3] [] 1 ⟨32,optL { y1 with val := y11 }⟩ ?_
 refine kQ ?_
 refine kEF [2] ⟨[(2,.p 0 0)],[⟨32,optL { y1 with val := y11 }⟩,⟨32,optL { y1 with val := y11 }⟩],[],[curF B g 100 (.slice A code.length cap) code.length,slF (.slice A code.length cap) 1 (code.map byteRow),frF w (fun b => b = g)]⟩ ?_
 refine kR ?_
 exact ⟨[.agg (optL { y1 with val := y11 }).toArray],by kernel_rfl,fun w' hb hf => ⟨⟨{ y1 with val := y11 },trivial⟩,rfl,hf (curF B g 100 (.slice A code.length cap) code.length) (by simp),frF_chgd (hf (frF w (fun b => b = g)) (by simp)) hb rfl rfl rfl⟩⟩
 have h10p := eqF h10
 refine kK ?_
 refine kQ ?_
 refine kEU [2] [(2,.p 0 0)] 0 ⟨32,optL y1⟩ ?_
 refine kR ?_
 exact ⟨[.agg (optL y1).toArray],by kernel_rfl,fun w' hb hf => ⟨⟨y1,trivial⟩,rfl,hf (curF B g 100 (.slice A code.length cap) code.length) (by simp),frF_chgd (hf (frF w (fun b => b = g)) (by simp)) hb rfl rfl rfl⟩⟩
theorem l8Bent_c_K {g : Nat} {code : List Int} {A : Option Addr} {cap : Nat}  {w0 : World} {fs : List Fact} {B : Nat} (hB : B ≤ w0.heap.size) (hap : ¬ (slF (.slice A code.length cap) 1 (code.map byteRow)).blk g)  (hn : code.length ≤ 1048576 := by omega) (h1 : curF B g 100 (.slice A code.length cap) code.length ∈ fs := by simp) (h2 : slF (.slice A code.length cap) 1 (code.map byteRow) ∈ fs := by simp) : XCM Tryz.prog w0 fs (curF B g 100 (.slice A code.length cap) code.length).blk 110 [.pointer (some ⟨g, 0, none⟩)] (α := {y : Opt // True}) (fun y => .agg (optL y.1).toArray) (fun _ => [curF B g 100 (.slice A code.length cap) code.length]) := xcm_cur fun w hw hf => l8Bent_c g code A cap  w B (Nat.le_trans hB hw) (hf _ h1) (hf _ h2) hap hn  
theorem l12Tuple_c (g : Nat) (code : List Int) (A : Option Addr) (cap : Nat)  (w : World) (B : Nat) (hB : B ≤ w.heap.size) (hc : (curF B g 100 (.slice A code.length cap) code.length).p w) (hl : Sl w (.slice A code.length cap) 1 (code.map byteRow)) (hap : ¬ (slF (.slice A code.length cap) 1 (code.map byteRow)).blk g) (hn : code.length ≤ 1048576)  : Calls Tryz.prog 125 #[.pointer (some ⟨g, 0, none⟩)] w fun e w' => ∃ y : {y : Tup // True}, e = .returned (.agg (tupL y.1).toArray) ∧ (curF B g 100 (.slice A code.length cap) code.length).p w' ∧ Chgd (fun b => b = g) w w' := by
 have hq_code := Sl.capLe hl
 have hBw : B ≤ (cutW w B).heap.size := Nat.le_of_eq (cutW_size hB).symm
 have hlo : ∀ (ww : World) (b : Nat),(curF B g 100 (.slice A code.length cap) code.length).p ww → (curF B g 100 (.slice A code.length cap) code.length).blk b → (cutW w B).heap.size ≤ b := fun ww b h hb => Nat.le_trans (cutW_le w B) (cur_lo h hb)
 refine x_callsM (args := [.pointer (some ⟨g,0,none⟩)]) (fn := Tryz.f125) [curF B g 100 (.slice A code.length cap) code.length,slF (.slice A code.length cap) 1 (code.map byteRow),frF w (fun b => b = g)] B Tryz.func125 rfl Tryz.ntmps125 rfl hB (by simp only [List.mem_cons,List.not_mem_nil,or_false,forall_eq_or_imp,forall_eq]; exact ⟨hc,hl,frF_start w _⟩) (apart_cur hap rfl) ?_
 refine kQ ?_
 refine kEF [0,2] ⟨[(0,.v (.pointer (some ⟨g,0,none⟩))),(2,.p 0 0)],[⟨25,tupL (⟨0,0,0⟩ : Tup)⟩],[],[curF B g 100 (.slice A code.length cap) code.length,slF (.slice A code.length cap) 1 (code.map byteRow),frF w (fun b => b = g)]⟩ ?_
 refine kQ ?_
 refine kWD 1 [0,2,3] [(3,.v (.pointer (some ⟨g,0,none⟩)))] 136 [.pointer (some ⟨g,0,none⟩)] (some 4) 0 rfl rfl hlo (l6Ip_c_K hBw hap) ?_
 rintro ⟨y1,hy1⟩
 refine kHD 1 [2,4,5] [(5,.v (.pointer (some ⟨g,0,none⟩)))] rfl (hv_build (e := 3) (K := 1) (bytes := 8) [.int .i64 40000,.int .i64 40001,.int .i64 40002] rfl (by kernel_rfl) (by kernel_rfl) (by kernel_rfl) (by kernel_rfl) (by kernel_rfl) (rs := ([40000,40001,40002] : List Int).map intRow) rfl) ?_
 intro g2
 refine xl_know (φ := ¬ (slF (.slice (some ⟨g2,0,none⟩) 3 3) 1 (([40000,40001,40002] : List Int).map intRow)).blk g) (fun _ _ _ _ hr => fun hb => hr.2.apart 0 1 (rowF (cutW w B).heap.size 3 1 (.slice (some ⟨g2,0,none⟩) 3 3) (([40000,40001,40002] : List Int).map intRow)) (curF B g 100 (.slice A code.length cap) code.length) rfl rfl (by decide) rfl g (rowF_sblk hb) rfl) (fun hk3 => ?_)
 refine kWD 0 [2,4,5,6] [] 66 [.pointer (some ⟨g,0,none⟩),.slice (some ⟨g2,0,none⟩) 3 3] (some 7) 1 rfl rfl hlo (l1PickInt_c_K hBw hap (fun ww hw hf => (rowF_sl (hf _ m0))) hk3 (by simp)) ?_
 rintro ⟨y4,hy4⟩
 refine kOD 0 [2,4,7] [] (.agg (tupL (⟨y1,y4,80⟩ : Tup)).toArray) rfl (fun _ _ _ ww hr => act_build [(0,.int .i64 y1),(1,.int .i64 y4),(2,.int .i64 80)] hr.1 rfl (by kernel_rfl) (by kernel_rfl) ww) ?_
 refine kEU [2] [(2,.p 0 0)] 0 ⟨25,tupL (⟨y1,y4,80⟩ : Tup)⟩ ?_
 refine kR ?_
 exact ⟨[.agg (tupL (⟨y1,y4,80⟩ : Tup)).toArray],by kernel_rfl,fun w' hb hf => ⟨⟨⟨y1,y4,80⟩,trivial⟩,rfl,hf (curF B g 100 (.slice A code.length cap) code.length) (by simp),frF_chgd (hf (frF w (fun b => b = g)) (by simp)) hb rfl rfl rfl⟩⟩
theorem l12Tuple_c_K {g : Nat} {code : List Int} {A : Option Addr} {cap : Nat}  {w0 : World} {fs : List Fact} {B : Nat} (hB : B ≤ w0.heap.size) (hap : ¬ (slF (.slice A code.length cap) 1 (code.map byteRow)).blk g)  (hn : code.length ≤ 1048576 := by omega) (h1 : curF B g 100 (.slice A code.length cap) code.length ∈ fs := by simp) (h2 : slF (.slice A code.length cap) 1 (code.map byteRow) ∈ fs := by simp) : XCM Tryz.prog w0 fs (curF B g 100 (.slice A code.length cap) code.length).blk 125 [.pointer (some ⟨g, 0, none⟩)] (α := {y : Tup // True}) (fun y => .agg (tupL y.1).toArray) (fun _ => [curF B g 100 (.slice A code.length cap) code.length]) := xcm_cur fun w hw hf => l12Tuple_c g code A cap  w B (Nat.le_trans hB hw) (hf _ h1) (hf _ h2) hap hn  
theorem l12Bent_c (g : Nat) (code : List Int) (A : Option Addr) (cap : Nat)  (w : World) (B : Nat) (hB : B ≤ w.heap.size) (hc : (curF B g 100 (.slice A code.length cap) code.length).p w) (hl : Sl w (.slice A code.length cap) 1 (code.map byteRow)) (hap : ¬ (slF (.slice A code.length cap) 1 (code.map byteRow)).blk g) (hn : code.length ≤ 1048576)  : Calls Tryz.prog 111 #[.pointer (some ⟨g, 0, none⟩)] w fun e w' => ∃ y : {y : Tup // True}, e = .returned (.agg (tupL y.1).toArray) ∧ (curF B g 100 (.slice A code.length cap) code.length).p w' ∧ Chgd (fun b => b = g) w w' := by
 have hq_code := Sl.capLe hl
 have hBw : B ≤ (cutW w B).heap.size := Nat.le_of_eq (cutW_size hB).symm
 have hlo : ∀ (ww : World) (b : Nat),(curF B g 100 (.slice A code.length cap) code.length).p ww → (curF B g 100 (.slice A code.length cap) code.length).blk b → (cutW w B).heap.size ≤ b := fun ww b h hb => Nat.le_trans (cutW_le w B) (cur_lo h hb)
 refine x_callsM (args := [.pointer (some ⟨g,0,none⟩)]) (fn := Tryz.f111) [curF B g 100 (.slice A code.length cap) code.length,slF (.slice A code.length cap) 1 (code.map byteRow),frF w (fun b => b = g)] B Tryz.func111 rfl Tryz.ntmps111 rfl hB (by simp only [List.mem_cons,List.not_mem_nil,or_false,forall_eq_or_imp,forall_eq]; exact ⟨hc,hl,frF_start w _⟩) (apart_cur hap rfl) ?_
 refine kQ ?_
 refine kEF [0,2] ⟨[(0,.v (.pointer (some ⟨g,0,none⟩))),(2,.p 0 0)],[⟨25,tupL (⟨0,0,0⟩ : Tup)⟩],[],[curF B g 100 (.slice A code.length cap) code.length,slF (.slice A code.length cap) 1 (code.map byteRow),frF w (fun b => b = g)]⟩ ?_
 refine kQ ?_
 refine kWD 1 [0,2,4] [(4,.v (.pointer (some ⟨g,0,none⟩)))] 125 [.pointer (some ⟨g,0,none⟩)] (some 5) 0 rfl rfl hlo (l12Tuple_c_K hBw hap) ?_
 rintro ⟨y1,hy1⟩
 refine kEA [0,2,3] [(3,.p 1 0)] [⟨25,tupL y1⟩] ?_
 refine kS ?_
 refine kQ ?_
 refine kWD 1 [0,2,3,6] [(6,.v (.pointer (some ⟨g,0,none⟩)))] 86 [.pointer (some ⟨g,0,none⟩),.int .i64 10] (some 7) 0 rfl rfl hlo (l1Below_c_K hBw hap) ?_
 rintro ⟨y2,hy2⟩
 obtain ⟨hy20,hy21⟩ := hy2
 refine kED [0,2,3,7] [] ?_
 refine xw_block ?_
 refine kQ ?_
 refine kED [0,2,3,7,8] [(8,.v (.bool (y2 == 0)))] ?_
 refine kC (y2 == 0) (fun h3 => ?_) (fun h3 => ?_)
 have h3p := eqT h3
 refine kG ?_
 refine kWD 1 [2,3,10] [(10,.v (.pointer (some ⟨g,0,none⟩)))] 123 [.pointer (some ⟨g,0,none⟩)] (some 11) 0 rfl rfl hlo (l2Word_c_K hBw hap) ?_
 rintro ⟨y4,hy4⟩
 refine kEU [2,3] [] 1 ⟨25,tupL { y1 with ip := y4 }⟩ ?_
 refine kQ ?_
 refine kEU [2] [(2,.p 0 0)] 0 ⟨25,tupL { y1 with ip := y4 }⟩ ?_
 refine kR ?_
 exact ⟨[.agg (tupL { y1 with ip := y4 }).toArray],by kernel_rfl,fun w' hb hf => ⟨⟨{ y1 with ip := y4 },trivial⟩,rfl,hf (curF B g 100 (.slice A code.length cap) code.length) (by simp),frF_chgd (hf (frF w (fun b => b = g)) (by simp)) hb rfl rfl rfl⟩⟩
 have h3p := eqF h3
 refine kQ ?_
 refine kED [0,2,3,7,13] [(13,.v (.bool (y2 == 1)))] ?_
 refine kC (y2 == 1) (fun h5 => ?_) (fun h5 => ?_)
 have h5p := eqT h5
 refine kG ?_
 refine kWD 1 [2,3,15] [(15,.v (.pointer (some ⟨g,0,none⟩)))] 123 [.pointer (some ⟨g,0,none⟩)] (some 16) 0 rfl rfl hlo (l2Word_c_K hBw hap) ?_
 rintro ⟨y6,hy6⟩
 refine kEU [2,3] [] 1 ⟨25,tupL { y1 with port := y6 }⟩ ?_
 refine kQ ?_
 refine kEU [2] [(2,.p 0 0)] 0 ⟨25,tupL { y1 with port := y6 }⟩ ?_
 refine kR ?_
 exact ⟨[.agg (tupL { y1 with port := y6 }).toArray],by kernel_rfl,fun w' hb hf => ⟨⟨{ y1 with port := y6 },trivial⟩,rfl,hf (curF B g 100 (.slice A code.length cap) code.length) (by simp),frF_chgd (hf (frF w (fun b => b = g)) (by simp)) hb rfl rfl rfl⟩⟩
 have h5p := eqF h5
 refine kQ ?_
 refine kED [0,2,3,18] [(18,.v (.bool (y2 == 2)))] ?_
 refine kC (y2 == 2) (fun h7 => ?_) (fun h7 => ?_)
 have h7p := eqT h7
 refine kG ?_
 refine kWD 1 [2,3,20] [(20,.v (.pointer (some ⟨g,0,none⟩)))] 123 [.pointer (some ⟨g,0,none⟩)] (some 21) 0 rfl rfl hlo (l2Word_c_K hBw hap) ?_
 rintro ⟨y8,hy8⟩
 refine kEU [2,3] [] 1 ⟨25,tupL { y1 with my := y8 }⟩ ?_
 refine kQ ?_
 refine kEU [2] [(2,.p 0 0)] 0 ⟨25,tupL { y1 with my := y8 }⟩ ?_
 refine kR ?_
 exact ⟨[.agg (tupL { y1 with my := y8 }).toArray],by kernel_rfl,fun w' hb hf => ⟨⟨{ y1 with my := y8 },trivial⟩,rfl,hf (curF B g 100 (.slice A code.length cap) code.length) (by simp),frF_chgd (hf (frF w (fun b => b = g)) (by simp)) hb rfl rfl rfl⟩⟩
 have h7p := eqF h7
 refine kK ?_
 refine kQ ?_
 refine kEU [2] [(2,.p 0 0)] 0 ⟨25,tupL y1⟩ ?_
 refine kR ?_
 exact ⟨[.agg (tupL y1).toArray],by kernel_rfl,fun w' hb hf => ⟨⟨y1,trivial⟩,rfl,hf (curF B g 100 (.slice A code.length cap) code.length) (by simp),frF_chgd (hf (frF w (fun b => b = g)) (by simp)) hb rfl rfl rfl⟩⟩
theorem l12Bent_c_K {g : Nat} {code : List Int} {A : Option Addr} {cap : Nat}  {w0 : World} {fs : List Fact} {B : Nat} (hB : B ≤ w0.heap.size) (hap : ¬ (slF (.slice A code.length cap) 1 (code.map byteRow)).blk g)  (hn : code.length ≤ 1048576 := by omega) (h1 : curF B g 100 (.slice A code.length cap) code.length ∈ fs := by simp) (h2 : slF (.slice A code.length cap) 1 (code.map byteRow) ∈ fs := by simp) : XCM Tryz.prog w0 fs (curF B g 100 (.slice A code.length cap) code.length).blk 111 [.pointer (some ⟨g, 0, none⟩)] (α := {y : Tup // True}) (fun y => .agg (tupL y.1).toArray) (fun _ => [curF B g 100 (.slice A code.length cap) code.length]) := xcm_cur fun w hw hf => l12Bent_c g code A cap  w B (Nat.le_trans hB hw) (hf _ h1) (hf _ h2) hap hn  
theorem big_c (code : List Int) (A : Option Addr) (cap : Nat) (w : World) (hl : Sl w (.slice A code.length cap) 1 (code.map byteRow)) : Calls Tryz.prog 10 #[.slice A code.length cap] w fun e w' => e = .returned (.bool (decide (((code.length : Nat) : Int) > 1048576))) ∧ Below w.heap.size w w' := by
 refine x_calls (args := [.slice A code.length cap]) (fn := Tryz.f10) [slF (.slice A code.length cap) 1 (code.map byteRow)] Tryz.func10 rfl Tryz.ntmps10 rfl (by simp only [List.mem_cons,List.not_mem_nil,or_false,forall_eq]; exact ⟨rfl,hl⟩) ?_
 refine kQ ?_
 refine kEF [0] ⟨[(0,.v (.slice A code.length cap))],[],[],[slF (.slice A code.length cap) 1 (code.map byteRow)]⟩ ?_
 refine kQ ?_
 refine kES [2] [(2,.v (.bool (decide (((code.length : Nat) : Int) > 1048576))))] ?_
 refine kR ?_
 exact ⟨[.bool (decide (((code.length : Nat) : Int) > 1048576))],by kernel_rfl,fun w' hb hf => ⟨rfl,hb⟩⟩
theorem l1Bytes_c (g : Nat) (code : List Int) (A : Option Addr) (cap : Nat) (n : Int) (w : World) (B : Nat) (hB : B ≤ w.heap.size) (hc : (curF B g 100 (.slice A code.length cap) code.length).p w) (hl : Sl w (.slice A code.length cap) 1 (code.map byteRow)) (hap : ¬ (slF (.slice A code.length cap) 1 (code.map byteRow)).blk g) (hn : code.length ≤ 1048576) (hn0 : 0 ≤ n ∧ n ≤ 4096) : Calls Tryz.prog 85 #[.pointer (some ⟨g, 0, none⟩), .int .i64 n] w fun e w' => ∃ y : {y : List Int × (Option Addr × Nat) // y.1.length ≤ 4096}, e = .returned (.slice y.1.2.1 y.1.1.length y.1.2.2) ∧ (curF B g 100 (.slice A code.length cap) code.length).p w' ∧ (rowF w.heap.size 5 1 (.slice y.1.2.1 y.1.1.length y.1.2.2) (y.1.1.map byteRow)).p w' ∧ g < w.heap.size ∧ Chgd (fun b => b = g) w w' := by
 have hq_code := Sl.capLe hl
 have hBw : B ≤ (cutW w B).heap.size := Nat.le_of_eq (cutW_size hB).symm
 have hlo : ∀ (ww : World) (b : Nat),(curF B g 100 (.slice A code.length cap) code.length).p ww → (curF B g 100 (.slice A code.length cap) code.length).blk b → (cutW w B).heap.size ≤ b := fun ww b h hb => Nat.le_trans (cutW_le w B) (cur_lo h hb)
 refine x_callsMA (args := [.pointer (some ⟨g,0,none⟩),.int .i64 n]) (fn := Tryz.f85) [curF B g 100 (.slice A code.length cap) code.length,slF (.slice A code.length cap) 1 (code.map byteRow),frF w (fun b => b = g)] B Tryz.func85 rfl Tryz.ntmps85 rfl hB (by simp only [List.mem_cons,List.not_mem_nil,or_false,forall_eq_or_imp,forall_eq]; exact ⟨hc,hl,frF_start w _⟩) (apart_cur hap rfl) ?_
 have hgl : g < w.heap.size := (curF B g 100 (.slice A code.length cap) code.length).lt w g hc rfl
 refine kQ ?_
 refine kEF [0,1] ⟨[(0,.v (.pointer (some ⟨g,0,none⟩))),(1,.v (.int .i64 n))],[],[],[curF B g 100 (.slice A code.length cap) code.length,slF (.slice A code.length cap) 1 (code.map byteRow),frF w (fun b => b = g)]⟩ ?_
 refine kQ ?_
 refine kHD 0 [0,1] [] rfl (hv_build (e := 5) (K := 1) (bytes := 1) [] rfl (by kernel_rfl) (by kernel_rfl) (by kernel_rfl) (by kernel_rfl) (by kernel_rfl) (rs := ([] : List Int).map byteRow) rfl) ?_
 intro g1
 refine kED [0,1,5] [(5,.v (.slice (some ⟨g1,0,none⟩) 0 0))] ?_
 refine kS ?_
 refine kQ ?_
 refine kED [0,1,5,6] [(6,.v (.int .i64 0))] ?_
 refine xw_block ?_
 refine xw_loopW (α := {x : Nat × List Int × Option Addr × Nat // (fun (i : Nat) (bs : List Int) (A1 : Option Addr) (c1 : Nat) => (i : Int) ≤ n ∧ bs.length = i) x.1 x.2.1 x.2.2.1 x.2.2.2}) (fun x => (fun (i : Nat) (bs : List Int) (A1 : Option Addr) (c1 : Nat) => (⟨[(0,.v (.pointer (some ⟨g,0,none⟩))),(1,.v (.int .i64 n)),(5,.v (.slice A1 bs.length c1)),(6,.v (.int .i64 (i : Int)))],[],[],[rowF (cutW w B).heap.size 5 1 (.slice A1 bs.length c1) (bs.map byteRow),curF B g 100 (.slice A code.length cap) code.length,slF (.slice A code.length cap) 1 (code.map byteRow),frF w (fun b => b = g)]⟩ : St)) x.1.1 x.1.2.1 x.1.2.2.1 x.1.2.2.2) (fun x => (fun (i : Nat) (bs : List Int) (A1 : Option Addr) (c1 : Nat) => n.toNat - i) x.1.1 x.1.2.1 x.1.2.2.1 x.1.2.2.2) ⟨(0,([] : List Int),(some ⟨g1,0,none⟩),0),⟨(by omega),rfl⟩⟩ ((wk_pick [0,1,2,3] [rowF (cutW w B).heap.size 5 1 (.slice (some ⟨g1,0,none⟩) 0 0) (([] : List Int).map byteRow),curF B g 100 (.slice A code.length cap) code.length,slF (.slice A code.length cap) 1 (code.map byteRow),frF w (fun b => b = g)] (by kernel_rfl) (by kernel_rfl)).trans <| kF 0 0 [0,1,5,6]) ?_
 rintro ⟨⟨i,bs,A1,c1⟩,hi,hbl⟩
 try dsimp only
 try dsimp only at hi hbl
 refine kS ?_
 refine kQ ?_
 refine kED [0,1,5,6,10] [(10,.v (.bool (decide ((i : Int) < n))))] ?_
 refine kC (decide ((i : Int) < n)) (fun h2 => ?_) (fun h2 => ?_)
 have h2p := of_decide_eq_true h2
 have hlt : (i : Int) < n := of_decide_eq_true h2
 refine kK ?_
 refine kS ?_
 refine xw_block ?_
 refine kG ?_
 refine kWD 2 [0,1,5,6,13,14] [(13,.v (.slice A1 bs.length c1)),(14,.v (.pointer (some ⟨g,0,none⟩)))] 118 [.pointer (some ⟨g,0,none⟩)] (some 15) 1 rfl rfl hlo (l1Byte_c_K hBw hap) ?_
 rintro ⟨y3,hy3⟩
 refine kHD 1 [0,1,5,6,13,16] [(16,.v (.int .u8 (IntKind.u8.wrap y3)))] rfl (hv_build (e := 5) (K := 1) (bytes := 1) [.int .u8 (IntKind.u8.wrap y3)] rfl (by kernel_rfl) (by kernel_rfl) (by kernel_rfl) (by kernel_rfl) (by kernel_rfl) (rs := ([IntKind.u8.wrap y3] : List Int).map byteRow) rfl) ?_
 intro g4
 refine kHD 0 [0,1,5,6,13,17] [] rfl (hv_append (e := 5) (K := 1) (bytes := 1) (i := 2) (q := (bs ++ ([IntKind.u8.wrap y3] : List Int)).length) (new := ([IntKind.u8.wrap y3] : List Int).map byteRow) (rs' := (bs ++ ([IntKind.u8.wrap y3] : List Int)).map byteRow) rfl rfl rfl rfl (by kernel_rfl) (by kernel_rfl) (by kernel_rfl) rfl (by simp) (by rw [List.map_append]) (by simp) (fun ww hf => (rowF_sl (hf (rowF (cutW w B).heap.size 5 1 (.slice (some ⟨g4,0,none⟩) 1 1) (([IntKind.u8.wrap y3] : List Int).map byteRow)) (by simp)))) (by intro r hr; obtain ⟨x,hx,rfl⟩ := List.mem_map.1 hr; exact ⟨rfl,by simp [byteRow,Value.oneCell']⟩) (by (try simp only [List.length_map,List.length_append,List.length_cons,List.length_nil,List.length_take,List.length_drop,maxLen]); omega) (by (try simp only [List.length_map,List.length_append,List.length_cons,List.length_nil,List.length_take,List.length_drop,maxLen]); omega)) ?_
 rintro ⟨v5a,v5c⟩
 refine kED [0,1,5,6] [(5,.v (.slice v5a ((bs ++ ([IntKind.u8.wrap y3] : List Int)).length) v5c))] ?_
 refine kG ?_
 refine kRS 3 [0,1,5,6] [(0,.v (.pointer (some ⟨g,0,none⟩))),(1,.v (.int .i64 n)),(5,.v (.slice v5a ((bs ++ ([IntKind.u8.wrap y3] : List Int)).length) v5c)),(6,.v (.int .i64 (IntKind.i64.wrap ((i : Int) + 1))))] ?_
 refine xl_eqS (t' := [(0,.v (.pointer (some ⟨g,0,none⟩))),(1,.v (.int .i64 n)),(5,.v (.slice v5a ((bs ++ ([IntKind.u8.wrap y3] : List Int)).length) v5c)),(6,.v (.int .i64 ((i : Int) + 1)))]) (by rw [show (IntKind.i64.wrap ((i : Int) + 1)) = ((i : Int) + 1) from wrap_id (by omega) (by omega)]) ?_
 refine kED [0,1,5,6] [] ?_
 exact ⟨⟨(i + 1,(bs ++ ([IntKind.u8.wrap y3] : List Int)),v5a,v5c),⟨by omega,by simp [hbl]⟩⟩,(wk_pick [0,2,3,4] [rowF (cutW w B).heap.size 5 1 (.slice v5a ((bs ++ ([IntKind.u8.wrap y3] : List Int)).length) v5c) ((bs ++ ([IntKind.u8.wrap y3] : List Int)).map byteRow),curF B g 100 (.slice A code.length cap) code.length,slF (.slice A code.length cap) 1 (code.map byteRow),frF w (fun b => b = g)] (by kernel_rfl) (by kernel_rfl)).trans <| kF 0 0 [0,1,5,6],by show (fun (i : Nat) (bs : List Int) (A1 : Option Addr) (c1 : Nat) => n.toNat - i) (i + 1) (bs ++ ([IntKind.u8.wrap y3] : List Int)) v5a v5c < n.toNat - i; (dsimp only; omega)⟩
 have h2p := of_decide_eq_false h2
 have hge : ¬ (i : Int) < n := of_decide_eq_false h2
 refine xw_exit ?_
 refine kQ ?_
 refine kES [4] [(4,.v (.slice A1 bs.length c1))] ?_
 refine kR ?_
 exact ⟨[.slice A1 bs.length c1],by kernel_rfl,fun w' hb hf ha => ⟨⟨(bs,A1,c1),by dsimp only; omega⟩,rfl,hf (curF B g 100 (.slice A code.length cap) code.length) (by simp),rowF_raise (hf (rowF (cutW w B).heap.size 5 1 (.slice A1 bs.length c1) (bs.map byteRow)) (by simp)) (row_new ha (i := 0) (j := 1) (k := 3) rfl rfl rfl (by decide) (by decide)),hgl,frF_chgd (hf (frF w (fun b => b = g)) (by simp)) hb rfl rfl rfl⟩⟩
theorem l5Long_c (n : Int) (w : World) (h0 : 0 ≤ n ∧ n ≤ 4096) : Calls Tryz.prog 65 #[.int .i64 n] w fun e w' => e = .returned (.string (bstr (List.replicate n.toNat 0))) ∧ Below w.heap.size w w' := by
 obtain ⟨m,rfl⟩ : ∃ m : Nat,n = (m : Int) := ⟨n.toNat,by omega⟩
 have hm : m ≤ 4096 := by omega
 refine x_calls (args := [.int .i64 (m : Int)]) (fn := Tryz.f65) [] Tryz.func65 rfl Tryz.ntmps65 rfl (by simp) ?_
 refine kQ ?_
 refine kEF [0] ⟨[(0,.v (.int .i64 (m : Int)))],[],[],[]⟩ ?_
 refine kQ ?_
 refine kHS 1 [4] [(4,.v (.int .i64 (m : Int)))] rfl (hv_make (kl := .i64) (kc := .i64) (e := 5) (K := 1) (bytes := 1) (m := m) (z := .int .u8 0) (rs := (List.replicate m 0).map byteRow) rfl (by kernel_rfl) (by kernel_rfl) (by kernel_rfl) (by kernel_rfl) (by (try simp only [List.length_map,List.length_append,List.length_cons,List.length_nil,List.length_take,List.length_drop,maxLen]); omega) (by (try simp only [List.length_map,List.length_append,List.length_cons,List.length_nil,List.length_take,List.length_drop,maxLen]); omega) (by rw [List.map_replicate]; rfl)) ?_
 intro g1
 refine kES [3] [(3,.v (.slice (some ⟨g1,0,none⟩) m m))] ?_
 refine kQ ?_
 refine kOS 1 [6] [(6,.v (.slice (some ⟨g1,0,none⟩) m m))] (.string (bstr (List.replicate m 0))) rfl (fun _ _ _ ww hr => act_b2s (e := 5) (List.replicate m 0) hr.1 rfl (by kernel_rfl) (by kernel_rfl) (by kernel_rfl) rfl (rowF_sl (hr.2.fact (rowF w.heap.size 5 1 (.slice (some ⟨g1,0,none⟩) m m) ((List.replicate m 0).map byteRow)) (by simp)).1)) ?_
 refine kES [2] [(2,.v (.string (bstr (List.replicate m 0))))] ?_
 refine kR ?_
 exact ⟨[.string (bstr (List.replicate m 0))],by kernel_rfl,fun w' hb hf => ⟨rfl,hb⟩⟩
theorem l9Flags_c (g : Nat) (code : List Int) (A : Option Addr) (cap : Nat)  (w : World) (B : Nat) (hB : B ≤ w.heap.size) (hc : (curF B g 100 (.slice A code.length cap) code.length).p w) (hl : Sl w (.slice A code.length cap) 1 (code.map byteRow)) (hap : ¬ (slF (.slice A code.length cap) 1 (code.map byteRow)).blk g) (hn : code.length ≤ 1048576)  : Calls Tryz.prog 120 #[.pointer (some ⟨g, 0, none⟩)] w fun e w' => ∃ y : {y : Int // True}, e = .returned (.int .i64 y.1) ∧ (curF B g 100 (.slice A code.length cap) code.length).p w' ∧ Chgd (fun b => b = g) w w' := by
 have hq_code := Sl.capLe hl
 have hBw : B ≤ (cutW w B).heap.size := Nat.le_of_eq (cutW_size hB).symm
 have hlo : ∀ (ww : World) (b : Nat),(curF B g 100 (.slice A code.length cap) code.length).p ww → (curF B g 100 (.slice A code.length cap) code.length).blk b → (cutW w B).heap.size ≤ b := fun ww b h hb => Nat.le_trans (cutW_le w B) (cur_lo h hb)
 refine x_callsM (args := [.pointer (some ⟨g,0,none⟩)]) (fn := Tryz.f120) [curF B g 100 (.slice A code.length cap) code.length,slF (.slice A code.length cap) 1 (code.map byteRow),frF w (fun b => b = g)] B Tryz.func120 rfl Tryz.ntmps120 rfl hB (by simp only [List.mem_cons,List.not_mem_nil,or_false,forall_eq_or_imp,forall_eq]; exact ⟨hc,hl,frF_start w _⟩) (apart_cur hap rfl) ?_
 refine kQ ?_
 refine kEF [0] ⟨[(0,.v (.pointer (some ⟨g,0,none⟩)))],[],[],[curF B g 100 (.slice A code.length cap) code.length,slF (.slice A code.length cap) 1 (code.map byteRow),frF w (fun b => b = g)]⟩ ?_
 refine kQ ?_
 refine kWS 2 [3,4] [(3,.v (.pointer (some ⟨g,0,none⟩))),(4,.v (.pointer (some ⟨g,0,none⟩)))] 86 [.pointer (some ⟨g,0,none⟩),.int .i64 64] (some 5) 0 rfl rfl hlo (l1Below_c_K hBw hap) ?_
 rintro ⟨y1,hy1⟩
 obtain ⟨hy10,hy11⟩ := hy1
 refine kHD 0 [3,5] [] rfl (hv_build (e := 3) (K := 1) (bytes := 8) [.int .i64 2,.int .i64 16,.int .i64 16,.int .i64 18,.int .i64 24,.int .i64 17,.int .i64 4,.int .i64 20,.int .i64 0,.int .i64 y1] rfl (by kernel_rfl) (by kernel_rfl) (by kernel_rfl) (by kernel_rfl) (by kernel_rfl) (rs := ([2,16,16,18,24,17,4,20,0,y1] : List Int).map intRow) rfl) ?_
 intro g2
 refine xl_know (φ := ¬ (slF (.slice (some ⟨g2,0,none⟩) 10 10) 1 (([2,16,16,18,24,17,4,20,0,y1] : List Int).map intRow)).blk g) (fun _ _ _ _ hr => fun hb => hr.2.apart 0 1 (rowF (cutW w B).heap.size 3 1 (.slice (some ⟨g2,0,none⟩) 10 10) (([2,16,16,18,24,17,4,20,0,y1] : List Int).map intRow)) (curF B g 100 (.slice A code.length cap) code.length) rfl rfl (by decide) rfl g (rowF_sblk hb) rfl) (fun hk3 => ?_)
 refine kWD 0 [3,6] [] 66 [.pointer (some ⟨g,0,none⟩),.slice (some ⟨g2,0,none⟩) 10 10] (some 7) 1 rfl rfl hlo (l1PickInt_c_K hBw hap (fun ww hw hf => (rowF_sl (hf _ m0))) hk3 (by simp)) ?_
 rintro ⟨y4,hy4⟩
 refine kES [2] [(2,.v (.int .i64 y4))] ?_
 refine kR ?_
 exact ⟨[.int .i64 y4],by kernel_rfl,fun w' hb hf => ⟨⟨y4,trivial⟩,rfl,hf (curF B g 100 (.slice A code.length cap) code.length) (by simp),frF_chgd (hf (frF w (fun b => b = g)) (by simp)) hb rfl rfl rfl⟩⟩
theorem l9Flags_c_K {g : Nat} {code : List Int} {A : Option Addr} {cap : Nat}  {w0 : World} {fs : List Fact} {B : Nat} (hB : B ≤ w0.heap.size) (hap : ¬ (slF (.slice A code.length cap) 1 (code.map byteRow)).blk g)  (hn : code.length ≤ 1048576 := by omega) (h1 : curF B g 100 (.slice A code.length cap) code.length ∈ fs := by simp) (h2 : slF (.slice A code.length cap) 1 (code.map byteRow) ∈ fs := by simp) : XCM Tryz.prog w0 fs (curF B g 100 (.slice A code.length cap) code.length).blk 120 [.pointer (some ⟨g, 0, none⟩)] (α := {y : Int // True}) (fun y => .int .i64 y.1) (fun _ => [curF B g 100 (.slice A code.length cap) code.length]) := xcm_cur fun w hw hf => l9Flags_c g code A cap  w B (Nat.le_trans hB hw) (hf _ h1) (hf _ h2) hap hn  
theorem l1Pick_c (g : Nat) (code : List Int) (A : Option Addr) (cap : Nat) (list : List ByteArray) (listV : Value) (w : World) (B : Nat) (hB : B ≤ w.heap.size) (hc : (curF B g 100 (.slice A code.length cap) code.length).p w) (hl : Sl w (.slice A code.length cap) 1 (code.map byteRow)) (hap : ¬ (slF (.slice A code.length cap) 1 (code.map byteRow)).blk g) (hn : code.length ≤ 1048576) (hl_listV : Sl w listV 1 (list.map strRow)) (hap2 : ¬ (slF listV 1 (list.map strRow)).blk g) (hne : 0 < list.length) : Calls Tryz.prog 131 #[.pointer (some ⟨g, 0, none⟩), listV] w fun e w' => ∃ y : {y : ByteArray // y ∈ list}, e = .returned (.string y.1) ∧ (curF B g 100 (.slice A code.length cap) code.length).p w' ∧ Chgd (fun b => b = g) w w' := by
 have hq_code := Sl.capLe hl
 have hBw : B ≤ (cutW w B).heap.size := Nat.le_of_eq (cutW_size hB).symm
 have hlo : ∀ (ww : World) (b : Nat),(curF B g 100 (.slice A code.length cap) code.length).p ww → (curF B g 100 (.slice A code.length cap) code.length).blk b → (cutW w B).heap.size ≤ b := fun ww b h hb => Nat.le_trans (cutW_le w B) (cur_lo h hb)
 obtain ⟨Al,Cl,hvl⟩ := hl_listV.form
 rw [List.length_map] at hvl; subst hvl
 have hnl := hl_listV.len; rw [List.length_map] at hnl
 have hql := Sl.capLe hl_listV
 refine x_callsM (args := [.pointer (some ⟨g,0,none⟩),.slice Al list.length Cl]) (fn := Tryz.f131) [curF B g 100 (.slice A code.length cap) code.length,slF (.slice A code.length cap) 1 (code.map byteRow),frF w (fun b => b = g),slF (.slice Al list.length Cl) 1 (list.map strRow)] B Tryz.func131 rfl Tryz.ntmps131 rfl hB (by simp only [List.mem_cons,List.not_mem_nil,or_false,forall_eq_or_imp,forall_eq]; exact ⟨hc,hl,frF_start w _,hl_listV⟩) (apart_cur2 hap rfl hap2 rfl) ?_
 refine kQ ?_
 refine kEF [0,1] ⟨[(0,.v (.pointer (some ⟨g,0,none⟩))),(1,.v (.slice Al list.length Cl))],[],[],[curF B g 100 (.slice A code.length cap) code.length,slF (.slice A code.length cap) 1 (code.map byteRow),frF w (fun b => b = g),slF (.slice Al list.length Cl) 1 (list.map strRow)]⟩ ?_
 refine kQ ?_
 refine kWS 4 [5,6,8] [(5,.v (.slice Al list.length Cl)),(6,.v (.pointer (some ⟨g,0,none⟩))),(8,.v (.int .i64 ((list.length : Nat) : Int)))] 86 [.pointer (some ⟨g,0,none⟩),.int .i64 ((list.length : Nat) : Int)] (some 9) 0 rfl rfl hlo (l1Below_c_K hBw hap) ?_
 rintro ⟨y1,hy1⟩
 obtain ⟨hy10,hy11⟩ := hy1
 obtain ⟨j2,hj2⟩ : ∃ j : Nat,y1 = (j : Int) := ⟨y1.toNat,by omega⟩
 subst hj2
 have hlt : j2 < list.length := by omega
 obtain ⟨z,hz⟩ : ∃ z,list[j2]? = some z := ⟨_,List.getElem?_eq_getElem hlt⟩
 refine xl_indexD (kd := .i64) (T := 117) (e := 9) (K := 1) 0 [5,9] [] j2 [.string z] (slF (.slice Al list.length Cl) 1 (list.map strRow)) (by kernel_rfl) rfl (by kernel_rfl) rfl rfl (by kernel_rfl) (by kernel_rfl) (by kernel_rfl) (by kernel_rfl) hlt (by simp) (fun w h => h) (fun b h => h) (by simp only [List.getElem?_map,hz]; rfl) ?_
 refine kES [4] [(4,.v (.string z))] ?_
 refine kR ?_
 exact ⟨[.string z],by kernel_rfl,fun w' hb hf => ⟨⟨z,List.mem_of_getElem? hz⟩,rfl,hf (curF B g 100 (.slice A code.length cap) code.length) (by simp),frF_chgd (hf (frF w (fun b => b = g)) (by simp)) hb rfl rfl rfl⟩⟩
theorem l1Pick_c_K {g : Nat} {code : List Int} {A : Option Addr} {cap : Nat} {list : List ByteArray} {listV : Value} {w0 : World} {fs : List Fact} {B : Nat} (hB : B ≤ w0.heap.size) (hap : ¬ (slF (.slice A code.length cap) 1 (code.map byteRow)).blk g) (hs0 : ∀ w : World, w0.heap.size ≤ w.heap.size → (∀ f ∈ fs, f.p w) → Sl w listV 1 (list.map strRow)) (hq0 : ¬ (slF listV 1 (list.map strRow)).blk g) (hne : 0 < list.length) (hn : code.length ≤ 1048576 := by omega) (h1 : curF B g 100 (.slice A code.length cap) code.length ∈ fs := by simp) (h2 : slF (.slice A code.length cap) 1 (code.map byteRow) ∈ fs := by simp) : XCM Tryz.prog w0 fs (curF B g 100 (.slice A code.length cap) code.length).blk 131 [.pointer (some ⟨g, 0, none⟩), listV] (α := {y : ByteArray // y ∈ list}) (fun y => .string y.1) (fun _ => [curF B g 100 (.slice A code.length cap) code.length]) := xcm_cur fun w hw hf => l1Pick_c g code A cap list listV w B (Nat.le_trans hB hw) (hf _ h1) (hf _ h2) hap hn (hs0 w hw hf) hq0 hne
end Go.Proofs.YtnmmhbhdcplfmaaGreat
