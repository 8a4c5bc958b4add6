/- Contracts that this law needs, part 2. -/
import Derived.Test.YtebgmdiejgcoiaaZ1
namespace Go.Proofs.Ytebgmdiejgcoiaa
open Go.RowKit
set_option linter.unusedVariables false
set_option linter.unusedSimpArgs false
set_option maxRecDepth 100000
set_option maxHeartbeats 2000000

theorem yiTurned_c (c : Con) (c_r_heldV : Value) (w : World) (hl_c_r_heldV : Sl w c_r_heldV 2 (c.r.held.map pceCells)) (hkn : c.r.held.length ≤ 1048576)(hm : ∀ p ∈ c.r.held, p.text.size ≤ 1048576) (hsz : c.r.data.size ≤ 4611686018427387904) (B : Nat) (hB : B ≤ w.heap.size) : Calls Try.prog 67 #[.agg (conL c c_r_heldV).toArray] w fun e w' => XRs w w' e (α := Option Addr × Nat) (fun y => .agg (conL (turned c) (.slice y.1 ((turned c).r.held.length) y.2)).toArray) (fun y => [ownF B (.slice y.1 ((turned c).r.held.length) y.2) 2 ((turned c).r.held.map pceCells)]) := by
 obtain ⟨Acrh,Ccrh,hvcrh⟩ := hl_c_r_heldV.form
 rw [List.length_map] at hvcrh; subst hvcrh
 have hncrh := hl_c_r_heldV.len; rw [List.length_map] at hncrh
 have hqcrh := Sl.capLe hl_c_r_heldV
 have ht : conOk { c with state := turnState c,timer := 0 } = (conOk { c with state := turnState c,timer := 0,tries := 0 } && inB c.tries 0 3) := conOk_tries _
 refine x_callsA (args := [.agg (conL c (.slice Acrh c.r.held.length Ccrh)).toArray]) (fn := Try.f67) [slF (.slice Acrh c.r.held.length Ccrh) 2 (c.r.held.map pceCells)] Try.func67 rfl Try.ntmps67 rfl (by simp only [List.mem_cons,List.not_mem_nil,or_false,forall_eq_or_imp,forall_eq]; exact ⟨rfl,hl_c_r_heldV⟩) ?_
 refine kQ ?_
 refine kEF [1,2] ⟨[(1,.p 0 0),(2,.p 1 0)],[⟨50,conL c (.slice Acrh c.r.held.length Ccrh)⟩,⟨50,conZ⟩],[],[slF (.slice Acrh c.r.held.length Ccrh) 2 (c.r.held.map pceCells)]⟩ ?_
 refine kQ ?_
 refine kCS 1 [1,2,7] [(1,.p 0 0),(2,.p 1 0),(7,.v (.agg (conL c (.slice Acrh c.r.held.length Ccrh)).toArray))] 62 [.agg (conL c (.slice Acrh c.r.held.length Ccrh)).toArray] (some 8) rfl (xc_r fun ww hw hf => ycloneConn_c c (.slice Acrh c.r.held.length Ccrh) ww (hf _ m0) (by assumption) w.heap.size hw) ?_
 rintro ⟨v1a,v1c⟩
 refine kEF [1,2,3] ⟨[(1,.p 0 0),(2,.p 1 0),(3,.p 2 0)],[⟨50,conL c (.slice Acrh c.r.held.length Ccrh)⟩,⟨50,conZ⟩,⟨50,conL c (.slice v1a c.r.held.length v1c)⟩],[],[ownF w.heap.size (.slice v1a c.r.held.length v1c) 2 (c.r.held.map pceCells),slF (.slice Acrh c.r.held.length Ccrh) 2 (c.r.held.map pceCells)]⟩ ?_
 refine kS ?_
 refine kS ?_
 refine xe_region [] (by kernel_rfl) (fun ρ σ => ?_)
 refine kTS [0,1,2,3,4,5,6,7] [5,4,1,2,3] 0 [(5,.v (.bool c.r.done)),(4,.v (.bool c.s.done)),(1,.p 0 0),(2,.p 1 0),(3,.p 2 0)] ?_
 refine kZ ?_
 refine xw_block ?_
 refine kS ?_
 refine xw_join ⟨[(1,.p 0 0),(2,.p 1 0),(3,.p 2 0),(4,.v (.bool c.s.done)),(5,.v (.bool c.r.done)),(16,.v (.bool ((c.state == 1) && c.r.done)))],[⟨50,conL c (.slice Acrh c.r.held.length Ccrh)⟩,⟨50,conZ⟩,⟨50,conL c (.slice v1a c.r.held.length v1c)⟩],[],[ownF w.heap.size (.slice v1a c.r.held.length v1c) 2 (c.r.held.map pceCells),slF (.slice Acrh c.r.held.length Ccrh) 2 (c.r.held.map pceCells)]⟩ ?_ ?_
 refine kG ?_
 refine kRS 4 [1,2,3,4,5,20] [(1,.p 0 0),(2,.p 1 0),(3,.p 2 0),(4,.v (.bool c.s.done)),(5,.v (.bool c.r.done)),(20,.v (.bool (c.state == 1)))] ?_
 refine kP 20 (c.state == 1) (fun h2 => ?_) (fun h2 => ?_)
 have h2p := eqT h2
 refine kES [1,2,3,4,5,16] [(1,.p 0 0),(2,.p 1 0),(3,.p 2 0),(4,.v (.bool c.s.done)),(5,.v (.bool c.r.done)),(16,.v (.bool c.r.done))] ?_
 show Wk _ _
 try rw [h2]
 exact kF 3 0 [1,2,3,4,5,16]
 have h2p := eqF h2
 refine kES [1,2,3,4,5,16] [(1,.p 0 0),(2,.p 1 0),(3,.p 2 0),(4,.v (.bool c.s.done)),(5,.v (.bool c.r.done)),(16,.v (.bool false))] ?_
 show Wk _ _
 try rw [h2]
 exact kF 3 0 [1,2,3,4,5,16]
 refine kC ((c.state == 1) && c.r.done) (fun h3 => ?_) (fun h3 => ?_)
 have h3l := and_l h3
 have h3lp := eqT h3l
 have h3r := and_r h3
 refine kG ?_
 refine kEF [1,2,3] ⟨[(1,.p 0 0),(2,.p 1 0),(3,.p 2 0)],[⟨50,conL c (.slice Acrh c.r.held.length Ccrh)⟩,⟨50,conZ⟩,⟨50,conL { c with state := 4 } (.slice v1a c.r.held.length v1c)⟩],[],[ownF w.heap.size (.slice v1a c.r.held.length v1c) 2 (c.r.held.map pceCells),slF (.slice Acrh c.r.held.length Ccrh) 2 (c.r.held.map pceCells)]⟩ ?_
 refine kQ ?_
 refine kEF [1,2,3,6] ⟨[(1,.p 0 0),(2,.p 1 0),(3,.p 2 0),(6,.p 3 0)],[⟨50,conL c (.slice Acrh c.r.held.length Ccrh)⟩,⟨50,conZ⟩,⟨50,conL { c with state := 4 } (.slice v1a c.r.held.length v1c)⟩,⟨50,conL { c with state := 4 } (.slice v1a c.r.held.length v1c)⟩],[],[ownF w.heap.size (.slice v1a c.r.held.length v1c) 2 (c.r.held.map pceCells),slF (.slice Acrh c.r.held.length Ccrh) 2 (c.r.held.map pceCells)]⟩ ?_
 refine kQ ?_
 refine kEF [1,2,3,6] ⟨[(1,.p 0 0),(2,.p 1 0),(3,.p 2 0),(6,.p 3 0)],[⟨50,conL c (.slice Acrh c.r.held.length Ccrh)⟩,⟨50,conZ⟩,⟨50,conL { c with state := 4 } (.slice v1a c.r.held.length v1c)⟩,⟨50,conL { c with state := 4,timer := 0 } (.slice v1a c.r.held.length v1c)⟩],[],[ownF w.heap.size (.slice v1a c.r.held.length v1c) 2 (c.r.held.map pceCells),slF (.slice Acrh c.r.held.length Ccrh) 2 (c.r.held.map pceCells)]⟩ ?_
 refine kS ?_
 refine kS ?_
 refine xw_join ⟨[(1,.p 0 0),(2,.p 1 0),(3,.p 2 0),(85,.v (.bool ((!(conOk ({ c with state := 4,timer := 0 }))) || (!(inB c.timer 0 4)))))],[⟨50,conL c (.slice Acrh c.r.held.length Ccrh)⟩,⟨50,conZ⟩,⟨50,conL { c with state := 4 } (.slice v1a c.r.held.length v1c)⟩,⟨50,conL { c with state := 4,timer := 0 } (.slice v1a c.r.held.length v1c)⟩],[],[ownF w.heap.size (.slice v1a c.r.held.length v1c) 2 (c.r.held.map pceCells),slF (.slice Acrh c.r.held.length Ccrh) 2 (c.r.held.map pceCells)]⟩ ?_ ?_
 refine kG ?_
 refine kCS 1 [1,2,3,77] [(1,.p 0 0),(2,.p 1 0),(3,.p 2 0),(77,.v (.agg (conL { c with state := 4,timer := 0 } (.slice v1a c.r.held.length v1c)).toArray))] 93 [.agg (conL { c with state := 4,timer := 0 } (.slice v1a c.r.held.length v1c)).toArray] (some 78) rfl (xc_b fun ww hf => yiConnOk_c ({ c with state := 4,timer := 0 }) (.slice v1a c.r.held.length v1c) ww (Own.sl (hf _ m0)) (by assumption) (by omega)) ?_
 intro _
 refine kRS 2 [1,2,3,80] [(1,.p 0 0),(2,.p 1 0),(3,.p 2 0),(80,.v (.bool (!(conOk ({ c with state := 4,timer := 0 })))))] ?_
 refine kP 80 (!(conOk ({ c with state := 4,timer := 0 }))) (fun h4 => ?_) (fun h4 => ?_)
 have h4n := not_t h4
 refine kES [1,2,3,85] [(1,.p 0 0),(2,.p 1 0),(3,.p 2 0),(85,.v (.bool true))] ?_
 show Wk _ _
 try rw [h4]
 exact kF 4 0 [1,2,3,85]
 have h4n := not_f h4
 refine kCS 2 [1,2,3,80,82] [(1,.p 0 0),(2,.p 1 0),(3,.p 2 0),(80,.v (.bool false)),(82,.v (.int .i64 c.timer))] 77 [.int .i64 c.timer,.int .i64 0,.int .i64 4] (some 83) rfl (xc_s fun ww hf => within_c c.timer 0 4 ww ) ?_
 intro _
 refine kES [1,2,3,85] [(1,.p 0 0),(2,.p 1 0),(3,.p 2 0),(85,.v (.bool (!(inB c.timer 0 4))))] ?_
 show Wk _ _
 try rw [h4]
 exact kF 4 0 [1,2,3,85]
 refine kC ((!(conOk ({ c with state := 4,timer := 0 }))) || (!(inB c.timer 0 4))) (fun h5 => ?_) (fun h5 => ?_)
 refine kQ ?_
 refine kCS 1 [2,86] [(2,.p 1 0),(86,.v (.agg (conL c (.slice Acrh c.r.held.length Ccrh)).toArray))] 62 [.agg (conL c (.slice Acrh c.r.held.length Ccrh)).toArray] (some 87) rfl (xc_r fun ww hw hf => ycloneConn_c c (.slice Acrh c.r.held.length Ccrh) ww (hf _ m1) (by assumption) w.heap.size hw) ?_
 rintro ⟨v6a,v6c⟩
 refine kEF [2] ⟨[(2,.p 1 0)],[⟨50,conL c (.slice Acrh c.r.held.length Ccrh)⟩,⟨50,conL c (.slice v6a c.r.held.length v6c)⟩,⟨50,conL { c with state := 4 } (.slice v1a c.r.held.length v1c)⟩,⟨50,conL { c with state := 4,timer := 0 } (.slice v1a c.r.held.length v1c)⟩],[],[ownF w.heap.size (.slice v6a c.r.held.length v6c) 2 (c.r.held.map pceCells),ownF w.heap.size (.slice v1a c.r.held.length v1c) 2 (c.r.held.map pceCells),slF (.slice Acrh c.r.held.length Ccrh) 2 (c.r.held.map pceCells)]⟩ ?_
 refine kR ?_
 have hmod : turned c = c := by first | rfl | (simp [turned, *]; done) | grind [turned] | grind [turned,turnState]
 exact ⟨[.agg (conL c (.slice v6a c.r.held.length v6c)).toArray],by kernel_rfl,fun w' hb hf ha => by rw [hmod]; exact xo1 ((v6a,v6c)) rfl rfl (pO (hf _ m0) hB) hb⟩
 have h5l := or_l h5
 have h5ln := not_f h5l
 have h5r := or_r h5
 have h5rn := not_f h5r
 have h5rni := inB_tt.1 (show inB c.timer 0 4 = true from by simpa using h5rn)
 refine kK ?_
 refine kS ?_
 refine kQ ?_
 refine kES [2,3,89] [(2,.p 1 0),(3,.p 2 0),(89,.v (.int .i64 4))] ?_
 refine xw_block ?_
 refine kQ ?_
 refine kES [2,3,89,90] [(2,.p 1 0),(3,.p 2 0),(89,.v (.int .i64 4)),(90,.v (.bool false))] ?_
 refine kN ?_
 refine kQ ?_
 refine kES [2,3,94] [(2,.p 1 0),(3,.p 2 0),(94,.v (.bool false))] ?_
 refine kN ?_
 refine kK ?_
 refine kQ ?_
 refine kEF [2] ⟨[(2,.p 1 0)],[⟨50,conL c (.slice Acrh c.r.held.length Ccrh)⟩,⟨50,conL { c with state := 4 } (.slice v1a c.r.held.length v1c)⟩,⟨50,conL { c with state := 4 } (.slice v1a c.r.held.length v1c)⟩,⟨50,conL { c with state := 4,timer := 0 } (.slice v1a c.r.held.length v1c)⟩],[],[ownF w.heap.size (.slice v1a c.r.held.length v1c) 2 (c.r.held.map pceCells),slF (.slice Acrh c.r.held.length Ccrh) 2 (c.r.held.map pceCells)]⟩ ?_
 refine kR ?_
 have hmod : turned c = ({ c with state := 4 }) := by first | rfl | (simp [turned, *]; done) | grind [turned] | grind [turned,turnState]
 exact ⟨[.agg (conL { c with state := 4 } (.slice v1a c.r.held.length v1c)).toArray],by kernel_rfl,fun w' hb hf ha => by rw [hmod]; exact xo1 ((v1a,v1c)) rfl rfl (pO (hf _ m0) hB) hb⟩
 refine kS ?_
 refine xw_join ⟨[(1,.p 0 0),(2,.p 1 0),(3,.p 2 0),(4,.v (.bool c.s.done)),(5,.v (.bool c.r.done)),(24,.v (.bool ((c.state == 2) && (c.s.done && c.r.done))))],[⟨50,conL c (.slice Acrh c.r.held.length Ccrh)⟩,⟨50,conZ⟩,⟨50,conL c (.slice v1a c.r.held.length v1c)⟩],[],[ownF w.heap.size (.slice v1a c.r.held.length v1c) 2 (c.r.held.map pceCells),slF (.slice Acrh c.r.held.length Ccrh) 2 (c.r.held.map pceCells)]⟩ ?_ ?_
 refine kG ?_
 refine kRS 4 [1,2,3,4,5,28] [(1,.p 0 0),(2,.p 1 0),(3,.p 2 0),(4,.v (.bool c.s.done)),(5,.v (.bool c.r.done)),(28,.v (.bool (c.state == 2)))] ?_
 refine kP 28 (c.state == 2) (fun h7 => ?_) (fun h7 => ?_)
 have h7p := eqT h7
 refine kRS 3 [1,2,3,4,5,31] [(1,.p 0 0),(2,.p 1 0),(3,.p 2 0),(4,.v (.bool c.s.done)),(5,.v (.bool c.r.done)),(31,.v (.bool c.s.done))] ?_
 refine kP 31 (c.s.done) (fun h8 => ?_) (fun h8 => ?_)
 refine kES [1,2,3,4,5,24] [(1,.p 0 0),(2,.p 1 0),(3,.p 2 0),(4,.v (.bool c.s.done)),(5,.v (.bool c.r.done)),(24,.v (.bool c.r.done))] ?_
 show Wk _ _
 try rw [h7]
 try rw [h8]
 exact kF 3 0 [1,2,3,4,5,24]
 refine kES [1,2,3,4,5,24] [(1,.p 0 0),(2,.p 1 0),(3,.p 2 0),(4,.v (.bool c.s.done)),(5,.v (.bool c.r.done)),(24,.v (.bool false))] ?_
 show Wk _ _
 try rw [h7]
 try rw [h8]
 exact kF 3 0 [1,2,3,4,5,24]
 have h7p := eqF h7
 refine kES [1,2,3,4,5,24] [(1,.p 0 0),(2,.p 1 0),(3,.p 2 0),(4,.v (.bool c.s.done)),(5,.v (.bool c.r.done)),(24,.v (.bool false))] ?_
 show Wk _ _
 try rw [h7]
 exact kF 3 0 [1,2,3,4,5,24]
 refine kC ((c.state == 2) && (c.s.done && c.r.done)) (fun h9 => ?_) (fun h9 => ?_)
 have h9l := and_l h9
 have h9lp := eqT h9l
 have h9r := and_r h9
 have h9rl := and_l h9r
 have h9rr := and_r h9r
 refine kG ?_
 refine kEF [1,2,3] ⟨[(1,.p 0 0),(2,.p 1 0),(3,.p 2 0)],[⟨50,conL c (.slice Acrh c.r.held.length Ccrh)⟩,⟨50,conZ⟩,⟨50,conL { c with state := 7 } (.slice v1a c.r.held.length v1c)⟩],[],[ownF w.heap.size (.slice v1a c.r.held.length v1c) 2 (c.r.held.map pceCells),slF (.slice Acrh c.r.held.length Ccrh) 2 (c.r.held.map pceCells)]⟩ ?_
 refine kQ ?_
 refine kEF [1,2,3,6] ⟨[(1,.p 0 0),(2,.p 1 0),(3,.p 2 0),(6,.p 3 0)],[⟨50,conL c (.slice Acrh c.r.held.length Ccrh)⟩,⟨50,conZ⟩,⟨50,conL { c with state := 7 } (.slice v1a c.r.held.length v1c)⟩,⟨50,conL { c with state := 7 } (.slice v1a c.r.held.length v1c)⟩],[],[ownF w.heap.size (.slice v1a c.r.held.length v1c) 2 (c.r.held.map pceCells),slF (.slice Acrh c.r.held.length Ccrh) 2 (c.r.held.map pceCells)]⟩ ?_
 refine kQ ?_
 refine kEF [1,2,3,6] ⟨[(1,.p 0 0),(2,.p 1 0),(3,.p 2 0),(6,.p 3 0)],[⟨50,conL c (.slice Acrh c.r.held.length Ccrh)⟩,⟨50,conZ⟩,⟨50,conL { c with state := 7 } (.slice v1a c.r.held.length v1c)⟩,⟨50,conL { c with state := 7,timer := 0 } (.slice v1a c.r.held.length v1c)⟩],[],[ownF w.heap.size (.slice v1a c.r.held.length v1c) 2 (c.r.held.map pceCells),slF (.slice Acrh c.r.held.length Ccrh) 2 (c.r.held.map pceCells)]⟩ ?_
 refine kS ?_
 refine kS ?_
 refine xw_join ⟨[(1,.p 0 0),(2,.p 1 0),(3,.p 2 0),(85,.v (.bool ((!(conOk ({ c with state := 7,timer := 0 }))) || (!(inB c.timer 0 4)))))],[⟨50,conL c (.slice Acrh c.r.held.length Ccrh)⟩,⟨50,conZ⟩,⟨50,conL { c with state := 7 } (.slice v1a c.r.held.length v1c)⟩,⟨50,conL { c with state := 7,timer := 0 } (.slice v1a c.r.held.length v1c)⟩],[],[ownF w.heap.size (.slice v1a c.r.held.length v1c) 2 (c.r.held.map pceCells),slF (.slice Acrh c.r.held.length Ccrh) 2 (c.r.held.map pceCells)]⟩ ?_ ?_
 refine kG ?_
 refine kCS 1 [1,2,3,77] [(1,.p 0 0),(2,.p 1 0),(3,.p 2 0),(77,.v (.agg (conL { c with state := 7,timer := 0 } (.slice v1a c.r.held.length v1c)).toArray))] 93 [.agg (conL { c with state := 7,timer := 0 } (.slice v1a c.r.held.length v1c)).toArray] (some 78) rfl (xc_b fun ww hf => yiConnOk_c ({ c with state := 7,timer := 0 }) (.slice v1a c.r.held.length v1c) ww (Own.sl (hf _ m0)) (by assumption) (by omega)) ?_
 intro _
 refine kRS 2 [1,2,3,80] [(1,.p 0 0),(2,.p 1 0),(3,.p 2 0),(80,.v (.bool (!(conOk ({ c with state := 7,timer := 0 })))))] ?_
 refine kP 80 (!(conOk ({ c with state := 7,timer := 0 }))) (fun h10 => ?_) (fun h10 => ?_)
 have h10n := not_t h10
 refine kES [1,2,3,85] [(1,.p 0 0),(2,.p 1 0),(3,.p 2 0),(85,.v (.bool true))] ?_
 show Wk _ _
 try rw [h10]
 exact kF 4 0 [1,2,3,85]
 have h10n := not_f h10
 refine kCS 2 [1,2,3,80,82] [(1,.p 0 0),(2,.p 1 0),(3,.p 2 0),(80,.v (.bool false)),(82,.v (.int .i64 c.timer))] 77 [.int .i64 c.timer,.int .i64 0,.int .i64 4] (some 83) rfl (xc_s fun ww hf => within_c c.timer 0 4 ww ) ?_
 intro _
 refine kES [1,2,3,85] [(1,.p 0 0),(2,.p 1 0),(3,.p 2 0),(85,.v (.bool (!(inB c.timer 0 4))))] ?_
 show Wk _ _
 try rw [h10]
 exact kF 4 0 [1,2,3,85]
 refine kC ((!(conOk ({ c with state := 7,timer := 0 }))) || (!(inB c.timer 0 4))) (fun h11 => ?_) (fun h11 => ?_)
 refine kQ ?_
 refine kCS 1 [2,86] [(2,.p 1 0),(86,.v (.agg (conL c (.slice Acrh c.r.held.length Ccrh)).toArray))] 62 [.agg (conL c (.slice Acrh c.r.held.length Ccrh)).toArray] (some 87) rfl (xc_r fun ww hw hf => ycloneConn_c c (.slice Acrh c.r.held.length Ccrh) ww (hf _ m1) (by assumption) w.heap.size hw) ?_
 rintro ⟨v12a,v12c⟩
 refine kEF [2] ⟨[(2,.p 1 0)],[⟨50,conL c (.slice Acrh c.r.held.length Ccrh)⟩,⟨50,conL c (.slice v12a c.r.held.length v12c)⟩,⟨50,conL { c with state := 7 } (.slice v1a c.r.held.length v1c)⟩,⟨50,conL { c with state := 7,timer := 0 } (.slice v1a c.r.held.length v1c)⟩],[],[ownF w.heap.size (.slice v12a c.r.held.length v12c) 2 (c.r.held.map pceCells),ownF w.heap.size (.slice v1a c.r.held.length v1c) 2 (c.r.held.map pceCells),slF (.slice Acrh c.r.held.length Ccrh) 2 (c.r.held.map pceCells)]⟩ ?_
 refine kR ?_
 have hmod : turned c = c := by first | rfl | (simp [turned, *]; done) | grind [turned] | grind [turned,turnState]
 exact ⟨[.agg (conL c (.slice v12a c.r.held.length v12c)).toArray],by kernel_rfl,fun w' hb hf ha => by rw [hmod]; exact xo1 ((v12a,v12c)) rfl rfl (pO (hf _ m0) hB) hb⟩
 have h11l := or_l h11
 have h11ln := not_f h11l
 have h11r := or_r h11
 have h11rn := not_f h11r
 have h11rni := inB_tt.1 (show inB c.timer 0 4 = true from by simpa using h11rn)
 refine kK ?_
 refine kS ?_
 refine kQ ?_
 refine kES [2,3,89] [(2,.p 1 0),(3,.p 2 0),(89,.v (.int .i64 7))] ?_
 refine xw_block ?_
 refine kQ ?_
 refine kES [2,3,89,90] [(2,.p 1 0),(3,.p 2 0),(89,.v (.int .i64 7)),(90,.v (.bool true))] ?_
 refine kT ?_
 refine kG ?_
 refine kEF [2,3] ⟨[(2,.p 1 0),(3,.p 2 0)],[⟨50,conL c (.slice Acrh c.r.held.length Ccrh)⟩,⟨50,conZ⟩,⟨50,conL { c with state := 7,timer := 4,tries := 0 } (.slice v1a c.r.held.length v1c)⟩,⟨50,conL { c with state := 7,timer := 0 } (.slice v1a c.r.held.length v1c)⟩],[],[ownF w.heap.size (.slice v1a c.r.held.length v1c) 2 (c.r.held.map pceCells),slF (.slice Acrh c.r.held.length Ccrh) 2 (c.r.held.map pceCells)]⟩ ?_
 refine kQ ?_
 refine kEF [2] ⟨[(2,.p 1 0)],[⟨50,conL c (.slice Acrh c.r.held.length Ccrh)⟩,⟨50,conL { c with state := 7,timer := 4,tries := 0 } (.slice v1a c.r.held.length v1c)⟩,⟨50,conL { c with state := 7,timer := 4,tries := 0 } (.slice v1a c.r.held.length v1c)⟩,⟨50,conL { c with state := 7,timer := 0 } (.slice v1a c.r.held.length v1c)⟩],[],[ownF w.heap.size (.slice v1a c.r.held.length v1c) 2 (c.r.held.map pceCells),slF (.slice Acrh c.r.held.length Ccrh) 2 (c.r.held.map pceCells)]⟩ ?_
 refine kR ?_
 have hmod : turned c = ({ c with state := 7,timer := 4,tries := 0 }) := by first | rfl | (simp [turned, *]; done) | grind [turned] | grind [turned,turnState]
 exact ⟨[.agg (conL { c with state := 7,timer := 4,tries := 0 } (.slice v1a c.r.held.length v1c)).toArray],by kernel_rfl,fun w' hb hf ha => by rw [hmod]; exact xo1 ((v1a,v1c)) rfl rfl (pO (hf _ m0) hB) hb⟩
 refine kS ?_
 refine xw_join ⟨[(1,.p 0 0),(2,.p 1 0),(3,.p 2 0),(4,.v (.bool c.s.done)),(5,.v (.bool c.r.done)),(35,.v (.bool ((c.state == 2) && c.s.done)))],[⟨50,conL c (.slice Acrh c.r.held.length Ccrh)⟩,⟨50,conZ⟩,⟨50,conL c (.slice v1a c.r.held.length v1c)⟩],[],[ownF w.heap.size (.slice v1a c.r.held.length v1c) 2 (c.r.held.map pceCells),slF (.slice Acrh c.r.held.length Ccrh) 2 (c.r.held.map pceCells)]⟩ ?_ ?_
 refine kG ?_
 refine kRS 4 [1,2,3,4,5,39] [(1,.p 0 0),(2,.p 1 0),(3,.p 2 0),(4,.v (.bool c.s.done)),(5,.v (.bool c.r.done)),(39,.v (.bool (c.state == 2)))] ?_
 refine kP 39 (c.state == 2) (fun h13 => ?_) (fun h13 => ?_)
 have h13p := eqT h13
 refine kES [1,2,3,4,5,35] [(1,.p 0 0),(2,.p 1 0),(3,.p 2 0),(4,.v (.bool c.s.done)),(5,.v (.bool c.r.done)),(35,.v (.bool c.s.done))] ?_
 show Wk _ _
 try rw [h13]
 exact kF 3 0 [1,2,3,4,5,35]
 have h13p := eqF h13
 refine kES [1,2,3,4,5,35] [(1,.p 0 0),(2,.p 1 0),(3,.p 2 0),(4,.v (.bool c.s.done)),(5,.v (.bool c.r.done)),(35,.v (.bool false))] ?_
 show Wk _ _
 try rw [h13]
 exact kF 3 0 [1,2,3,4,5,35]
 refine kC ((c.state == 2) && c.s.done) (fun h14 => ?_) (fun h14 => ?_)
 have h14l := and_l h14
 have h14lp := eqT h14l
 have h14r := and_r h14
 refine kG ?_
 refine kEF [1,2,3] ⟨[(1,.p 0 0),(2,.p 1 0),(3,.p 2 0)],[⟨50,conL c (.slice Acrh c.r.held.length Ccrh)⟩,⟨50,conZ⟩,⟨50,conL { c with state := 3 } (.slice v1a c.r.held.length v1c)⟩],[],[ownF w.heap.size (.slice v1a c.r.held.length v1c) 2 (c.r.held.map pceCells),slF (.slice Acrh c.r.held.length Ccrh) 2 (c.r.held.map pceCells)]⟩ ?_
 refine kQ ?_
 refine kEF [1,2,3,6] ⟨[(1,.p 0 0),(2,.p 1 0),(3,.p 2 0),(6,.p 3 0)],[⟨50,conL c (.slice Acrh c.r.held.length Ccrh)⟩,⟨50,conZ⟩,⟨50,conL { c with state := 3 } (.slice v1a c.r.held.length v1c)⟩,⟨50,conL { c with state := 3 } (.slice v1a c.r.held.length v1c)⟩],[],[ownF w.heap.size (.slice v1a c.r.held.length v1c) 2 (c.r.held.map pceCells),slF (.slice Acrh c.r.held.length Ccrh) 2 (c.r.held.map pceCells)]⟩ ?_
 refine kQ ?_
 refine kEF [1,2,3,6] ⟨[(1,.p 0 0),(2,.p 1 0),(3,.p 2 0),(6,.p 3 0)],[⟨50,conL c (.slice Acrh c.r.held.length Ccrh)⟩,⟨50,conZ⟩,⟨50,conL { c with state := 3 } (.slice v1a c.r.held.length v1c)⟩,⟨50,conL { c with state := 3,timer := 0 } (.slice v1a c.r.held.length v1c)⟩],[],[ownF w.heap.size (.slice v1a c.r.held.length v1c) 2 (c.r.held.map pceCells),slF (.slice Acrh c.r.held.length Ccrh) 2 (c.r.held.map pceCells)]⟩ ?_
 refine kS ?_
 refine kS ?_
 refine xw_join ⟨[(1,.p 0 0),(2,.p 1 0),(3,.p 2 0),(85,.v (.bool ((!(conOk ({ c with state := 3,timer := 0 }))) || (!(inB c.timer 0 4)))))],[⟨50,conL c (.slice Acrh c.r.held.length Ccrh)⟩,⟨50,conZ⟩,⟨50,conL { c with state := 3 } (.slice v1a c.r.held.length v1c)⟩,⟨50,conL { c with state := 3,timer := 0 } (.slice v1a c.r.held.length v1c)⟩],[],[ownF w.heap.size (.slice v1a c.r.held.length v1c) 2 (c.r.held.map pceCells),slF (.slice Acrh c.r.held.length Ccrh) 2 (c.r.held.map pceCells)]⟩ ?_ ?_
 refine kG ?_
 refine kCS 1 [1,2,3,77] [(1,.p 0 0),(2,.p 1 0),(3,.p 2 0),(77,.v (.agg (conL { c with state := 3,timer := 0 } (.slice v1a c.r.held.length v1c)).toArray))] 93 [.agg (conL { c with state := 3,timer := 0 } (.slice v1a c.r.held.length v1c)).toArray] (some 78) rfl (xc_b fun ww hf => yiConnOk_c ({ c with state := 3,timer := 0 }) (.slice v1a c.r.held.length v1c) ww (Own.sl (hf _ m0)) (by assumption) (by omega)) ?_
 intro _
 refine kRS 2 [1,2,3,80] [(1,.p 0 0),(2,.p 1 0),(3,.p 2 0),(80,.v (.bool (!(conOk ({ c with state := 3,timer := 0 })))))] ?_
 refine kP 80 (!(conOk ({ c with state := 3,timer := 0 }))) (fun h15 => ?_) (fun h15 => ?_)
 have h15n := not_t h15
 refine kES [1,2,3,85] [(1,.p 0 0),(2,.p 1 0),(3,.p 2 0),(85,.v (.bool true))] ?_
 show Wk _ _
 try rw [h15]
 exact kF 4 0 [1,2,3,85]
 have h15n := not_f h15
 refine kCS 2 [1,2,3,80,82] [(1,.p 0 0),(2,.p 1 0),(3,.p 2 0),(80,.v (.bool false)),(82,.v (.int .i64 c.timer))] 77 [.int .i64 c.timer,.int .i64 0,.int .i64 4] (some 83) rfl (xc_s fun ww hf => within_c c.timer 0 4 ww ) ?_
 intro _
 refine kES [1,2,3,85] [(1,.p 0 0),(2,.p 1 0),(3,.p 2 0),(85,.v (.bool (!(inB c.timer 0 4))))] ?_
 show Wk _ _
 try rw [h15]
 exact kF 4 0 [1,2,3,85]
 refine kC ((!(conOk ({ c with state := 3,timer := 0 }))) || (!(inB c.timer 0 4))) (fun h16 => ?_) (fun h16 => ?_)
 refine kQ ?_
 refine kCS 1 [2,86] [(2,.p 1 0),(86,.v (.agg (conL c (.slice Acrh c.r.held.length Ccrh)).toArray))] 62 [.agg (conL c (.slice Acrh c.r.held.length Ccrh)).toArray] (some 87) rfl (xc_r fun ww hw hf => ycloneConn_c c (.slice Acrh c.r.held.length Ccrh) ww (hf _ m1) (by assumption) w.heap.size hw) ?_
 rintro ⟨v17a,v17c⟩
 refine kEF [2] ⟨[(2,.p 1 0)],[⟨50,conL c (.slice Acrh c.r.held.length Ccrh)⟩,⟨50,conL c (.slice v17a c.r.held.length v17c)⟩,⟨50,conL { c with state := 3 } (.slice v1a c.r.held.length v1c)⟩,⟨50,conL { c with state := 3,timer := 0 } (.slice v1a c.r.held.length v1c)⟩],[],[ownF w.heap.size (.slice v17a c.r.held.length v17c) 2 (c.r.held.map pceCells),ownF w.heap.size (.slice v1a c.r.held.length v1c) 2 (c.r.held.map pceCells),slF (.slice Acrh c.r.held.length Ccrh) 2 (c.r.held.map pceCells)]⟩ ?_
 refine kR ?_
 have hmod : turned c = c := by first | rfl | (simp [turned, *]; done) | grind [turned] | grind [turned,turnState]
 exact ⟨[.agg (conL c (.slice v17a c.r.held.length v17c)).toArray],by kernel_rfl,fun w' hb hf ha => by rw [hmod]; exact xo1 ((v17a,v17c)) rfl rfl (pO (hf _ m0) hB) hb⟩
 have h16l := or_l h16
 have h16ln := not_f h16l
 have h16r := or_r h16
 have h16rn := not_f h16r
 have h16rni := inB_tt.1 (show inB c.timer 0 4 = true from by simpa using h16rn)
 refine kK ?_
 refine kS ?_
 refine kQ ?_
 refine kES [2,3,89] [(2,.p 1 0),(3,.p 2 0),(89,.v (.int .i64 3))] ?_
 refine xw_block ?_
 refine kQ ?_
 refine kES [2,3,89,90] [(2,.p 1 0),(3,.p 2 0),(89,.v (.int .i64 3)),(90,.v (.bool false))] ?_
 refine kN ?_
 refine kQ ?_
 refine kES [2,3,94] [(2,.p 1 0),(3,.p 2 0),(94,.v (.bool false))] ?_
 refine kN ?_
 refine kK ?_
 refine kQ ?_
 refine kEF [2] ⟨[(2,.p 1 0)],[⟨50,conL c (.slice Acrh c.r.held.length Ccrh)⟩,⟨50,conL { c with state := 3 } (.slice v1a c.r.held.length v1c)⟩,⟨50,conL { c with state := 3 } (.slice v1a c.r.held.length v1c)⟩,⟨50,conL { c with state := 3,timer := 0 } (.slice v1a c.r.held.length v1c)⟩],[],[ownF w.heap.size (.slice v1a c.r.held.length v1c) 2 (c.r.held.map pceCells),slF (.slice Acrh c.r.held.length Ccrh) 2 (c.r.held.map pceCells)]⟩ ?_
 refine kR ?_
 have hmod : turned c = ({ c with state := 3 }) := by first | rfl | (simp [turned, *]; done) | grind [turned] | grind [turned,turnState]
 exact ⟨[.agg (conL { c with state := 3 } (.slice v1a c.r.held.length v1c)).toArray],by kernel_rfl,fun w' hb hf ha => by rw [hmod]; exact xo1 ((v1a,v1c)) rfl rfl (pO (hf _ m0) hB) hb⟩
 refine kS ?_
 refine xw_join ⟨[(1,.p 0 0),(2,.p 1 0),(3,.p 2 0),(4,.v (.bool c.s.done)),(5,.v (.bool c.r.done)),(43,.v (.bool ((c.state == 2) && c.r.done)))],[⟨50,conL c (.slice Acrh c.r.held.length Ccrh)⟩,⟨50,conZ⟩,⟨50,conL c (.slice v1a c.r.held.length v1c)⟩],[],[ownF w.heap.size (.slice v1a c.r.held.length v1c) 2 (c.r.held.map pceCells),slF (.slice Acrh c.r.held.length Ccrh) 2 (c.r.held.map pceCells)]⟩ ?_ ?_
 refine kG ?_
 refine kRS 4 [1,2,3,4,5,47] [(1,.p 0 0),(2,.p 1 0),(3,.p 2 0),(4,.v (.bool c.s.done)),(5,.v (.bool c.r.done)),(47,.v (.bool (c.state == 2)))] ?_
 refine kP 47 (c.state == 2) (fun h18 => ?_) (fun h18 => ?_)
 have h18p := eqT h18
 refine kES [1,2,3,4,5,43] [(1,.p 0 0),(2,.p 1 0),(3,.p 2 0),(4,.v (.bool c.s.done)),(5,.v (.bool c.r.done)),(43,.v (.bool c.r.done))] ?_
 show Wk _ _
 try rw [h18]
 exact kF 3 0 [1,2,3,4,5,43]
 have h18p := eqF h18
 refine kES [1,2,3,4,5,43] [(1,.p 0 0),(2,.p 1 0),(3,.p 2 0),(4,.v (.bool c.s.done)),(5,.v (.bool c.r.done)),(43,.v (.bool false))] ?_
 show Wk _ _
 try rw [h18]
 exact kF 3 0 [1,2,3,4,5,43]
 refine kC ((c.state == 2) && c.r.done) (fun h19 => ?_) (fun h19 => ?_)
 have h19l := and_l h19
 have h19lp := eqT h19l
 have h19r := and_r h19
 refine kG ?_
 refine kEF [1,2,3] ⟨[(1,.p 0 0),(2,.p 1 0),(3,.p 2 0)],[⟨50,conL c (.slice Acrh c.r.held.length Ccrh)⟩,⟨50,conZ⟩,⟨50,conL { c with state := 5 } (.slice v1a c.r.held.length v1c)⟩],[],[ownF w.heap.size (.slice v1a c.r.held.length v1c) 2 (c.r.held.map pceCells),slF (.slice Acrh c.r.held.length Ccrh) 2 (c.r.held.map pceCells)]⟩ ?_
 refine kQ ?_
 refine kEF [1,2,3,6] ⟨[(1,.p 0 0),(2,.p 1 0),(3,.p 2 0),(6,.p 3 0)],[⟨50,conL c (.slice Acrh c.r.held.length Ccrh)⟩,⟨50,conZ⟩,⟨50,conL { c with state := 5 } (.slice v1a c.r.held.length v1c)⟩,⟨50,conL { c with state := 5 } (.slice v1a c.r.held.length v1c)⟩],[],[ownF w.heap.size (.slice v1a c.r.held.length v1c) 2 (c.r.held.map pceCells),slF (.slice Acrh c.r.held.length Ccrh) 2 (c.r.held.map pceCells)]⟩ ?_
 refine kQ ?_
 refine kEF [1,2,3,6] ⟨[(1,.p 0 0),(2,.p 1 0),(3,.p 2 0),(6,.p 3 0)],[⟨50,conL c (.slice Acrh c.r.held.length Ccrh)⟩,⟨50,conZ⟩,⟨50,conL { c with state := 5 } (.slice v1a c.r.held.length v1c)⟩,⟨50,conL { c with state := 5,timer := 0 } (.slice v1a c.r.held.length v1c)⟩],[],[ownF w.heap.size (.slice v1a c.r.held.length v1c) 2 (c.r.held.map pceCells),slF (.slice Acrh c.r.held.length Ccrh) 2 (c.r.held.map pceCells)]⟩ ?_
 refine kS ?_
 refine kS ?_
 refine xw_join ⟨[(1,.p 0 0),(2,.p 1 0),(3,.p 2 0),(85,.v (.bool ((!(conOk ({ c with state := 5,timer := 0 }))) || (!(inB c.timer 0 4)))))],[⟨50,conL c (.slice Acrh c.r.held.length Ccrh)⟩,⟨50,conZ⟩,⟨50,conL { c with state := 5 } (.slice v1a c.r.held.length v1c)⟩,⟨50,conL { c with state := 5,timer := 0 } (.slice v1a c.r.held.length v1c)⟩],[],[ownF w.heap.size (.slice v1a c.r.held.length v1c) 2 (c.r.held.map pceCells),slF (.slice Acrh c.r.held.length Ccrh) 2 (c.r.held.map pceCells)]⟩ ?_ ?_
 refine kG ?_
 refine kCS 1 [1,2,3,77] [(1,.p 0 0),(2,.p 1 0),(3,.p 2 0),(77,.v (.agg (conL { c with state := 5,timer := 0 } (.slice v1a c.r.held.length v1c)).toArray))] 93 [.agg (conL { c with state := 5,timer := 0 } (.slice v1a c.r.held.length v1c)).toArray] (some 78) rfl (xc_b fun ww hf => yiConnOk_c ({ c with state := 5,timer := 0 }) (.slice v1a c.r.held.length v1c) ww (Own.sl (hf _ m0)) (by assumption) (by omega)) ?_
 intro _
 refine kRS 2 [1,2,3,80] [(1,.p 0 0),(2,.p 1 0),(3,.p 2 0),(80,.v (.bool (!(conOk ({ c with state := 5,timer := 0 })))))] ?_
 refine kP 80 (!(conOk ({ c with state := 5,timer := 0 }))) (fun h20 => ?_) (fun h20 => ?_)
 have h20n := not_t h20
 refine kES [1,2,3,85] [(1,.p 0 0),(2,.p 1 0),(3,.p 2 0),(85,.v (.bool true))] ?_
 show Wk _ _
 try rw [h20]
 exact kF 4 0 [1,2,3,85]
 have h20n := not_f h20
 refine kCS 2 [1,2,3,80,82] [(1,.p 0 0),(2,.p 1 0),(3,.p 2 0),(80,.v (.bool false)),(82,.v (.int .i64 c.timer))] 77 [.int .i64 c.timer,.int .i64 0,.int .i64 4] (some 83) rfl (xc_s fun ww hf => within_c c.timer 0 4 ww ) ?_
 intro _
 refine kES [1,2,3,85] [(1,.p 0 0),(2,.p 1 0),(3,.p 2 0),(85,.v (.bool (!(inB c.timer 0 4))))] ?_
 show Wk _ _
 try rw [h20]
 exact kF 4 0 [1,2,3,85]
 refine kC ((!(conOk ({ c with state := 5,timer := 0 }))) || (!(inB c.timer 0 4))) (fun h21 => ?_) (fun h21 => ?_)
 refine kQ ?_
 refine kCS 1 [2,86] [(2,.p 1 0),(86,.v (.agg (conL c (.slice Acrh c.r.held.length Ccrh)).toArray))] 62 [.agg (conL c (.slice Acrh c.r.held.length Ccrh)).toArray] (some 87) rfl (xc_r fun ww hw hf => ycloneConn_c c (.slice Acrh c.r.held.length Ccrh) ww (hf _ m1) (by assumption) w.heap.size hw) ?_
 rintro ⟨v22a,v22c⟩
 refine kEF [2] ⟨[(2,.p 1 0)],[⟨50,conL c (.slice Acrh c.r.held.length Ccrh)⟩,⟨50,conL c (.slice v22a c.r.held.length v22c)⟩,⟨50,conL { c with state := 5 } (.slice v1a c.r.held.length v1c)⟩,⟨50,conL { c with state := 5,timer := 0 } (.slice v1a c.r.held.length v1c)⟩],[],[ownF w.heap.size (.slice v22a c.r.held.length v22c) 2 (c.r.held.map pceCells),ownF w.heap.size (.slice v1a c.r.held.length v1c) 2 (c.r.held.map pceCells),slF (.slice Acrh c.r.held.length Ccrh) 2 (c.r.held.map pceCells)]⟩ ?_
 refine kR ?_
 have hmod : turned c = c := by first | rfl | (simp [turned, *]; done) | grind [turned] | grind [turned,turnState]
 exact ⟨[.agg (conL c (.slice v22a c.r.held.length v22c)).toArray],by kernel_rfl,fun w' hb hf ha => by rw [hmod]; exact xo1 ((v22a,v22c)) rfl rfl (pO (hf _ m0) hB) hb⟩
 have h21l := or_l h21
 have h21ln := not_f h21l
 have h21r := or_r h21
 have h21rn := not_f h21r
 have h21rni := inB_tt.1 (show inB c.timer 0 4 = true from by simpa using h21rn)
 refine kK ?_
 refine kS ?_
 refine kQ ?_
 refine kES [2,3,89] [(2,.p 1 0),(3,.p 2 0),(89,.v (.int .i64 5))] ?_
 refine xw_block ?_
 refine kQ ?_
 refine kES [2,3,89,90] [(2,.p 1 0),(3,.p 2 0),(89,.v (.int .i64 5)),(90,.v (.bool false))] ?_
 refine kN ?_
 refine kQ ?_
 refine kES [2,3,94] [(2,.p 1 0),(3,.p 2 0),(94,.v (.bool false))] ?_
 refine kN ?_
 refine kK ?_
 refine kQ ?_
 refine kEF [2] ⟨[(2,.p 1 0)],[⟨50,conL c (.slice Acrh c.r.held.length Ccrh)⟩,⟨50,conL { c with state := 5 } (.slice v1a c.r.held.length v1c)⟩,⟨50,conL { c with state := 5 } (.slice v1a c.r.held.length v1c)⟩,⟨50,conL { c with state := 5,timer := 0 } (.slice v1a c.r.held.length v1c)⟩],[],[ownF w.heap.size (.slice v1a c.r.held.length v1c) 2 (c.r.held.map pceCells),slF (.slice Acrh c.r.held.length Ccrh) 2 (c.r.held.map pceCells)]⟩ ?_
 refine kR ?_
 have hmod : turned c = ({ c with state := 5 }) := by first | rfl | (simp [turned, *]; done) | grind [turned] | grind [turned,turnState]
 exact ⟨[.agg (conL { c with state := 5 } (.slice v1a c.r.held.length v1c)).toArray],by kernel_rfl,fun w' hb hf ha => by rw [hmod]; exact xo1 ((v1a,v1c)) rfl rfl (pO (hf _ m0) hB) hb⟩
 refine kS ?_
 refine xw_join ⟨[(1,.p 0 0),(2,.p 1 0),(3,.p 2 0),(4,.v (.bool c.s.done)),(51,.v (.bool ((c.state == 3) && c.r.done)))],[⟨50,conL c (.slice Acrh c.r.held.length Ccrh)⟩,⟨50,conZ⟩,⟨50,conL c (.slice v1a c.r.held.length v1c)⟩],[],[ownF w.heap.size (.slice v1a c.r.held.length v1c) 2 (c.r.held.map pceCells),slF (.slice Acrh c.r.held.length Ccrh) 2 (c.r.held.map pceCells)]⟩ ?_ ?_
 refine kG ?_
 refine kRS 4 [1,2,3,4,5,55] [(1,.p 0 0),(2,.p 1 0),(3,.p 2 0),(4,.v (.bool c.s.done)),(5,.v (.bool c.r.done)),(55,.v (.bool (c.state == 3)))] ?_
 refine kP 55 (c.state == 3) (fun h23 => ?_) (fun h23 => ?_)
 have h23p := eqT h23
 refine kES [1,2,3,4,51] [(1,.p 0 0),(2,.p 1 0),(3,.p 2 0),(4,.v (.bool c.s.done)),(51,.v (.bool c.r.done))] ?_
 show Wk _ _
 try rw [h23]
 exact kF 3 0 [1,2,3,4,51]
 have h23p := eqF h23
 refine kES [1,2,3,4,51] [(1,.p 0 0),(2,.p 1 0),(3,.p 2 0),(4,.v (.bool c.s.done)),(51,.v (.bool false))] ?_
 show Wk _ _
 try rw [h23]
 exact kF 3 0 [1,2,3,4,51]
 refine kC ((c.state == 3) && c.r.done) (fun h24 => ?_) (fun h24 => ?_)
 have h24l := and_l h24
 have h24lp := eqT h24l
 have h24r := and_r h24
 refine kG ?_
 refine kEF [1,2,3] ⟨[(1,.p 0 0),(2,.p 1 0),(3,.p 2 0)],[⟨50,conL c (.slice Acrh c.r.held.length Ccrh)⟩,⟨50,conZ⟩,⟨50,conL { c with state := 7 } (.slice v1a c.r.held.length v1c)⟩],[],[ownF w.heap.size (.slice v1a c.r.held.length v1c) 2 (c.r.held.map pceCells),slF (.slice Acrh c.r.held.length Ccrh) 2 (c.r.held.map pceCells)]⟩ ?_
 refine kQ ?_
 refine kEF [1,2,3,6] ⟨[(1,.p 0 0),(2,.p 1 0),(3,.p 2 0),(6,.p 3 0)],[⟨50,conL c (.slice Acrh c.r.held.length Ccrh)⟩,⟨50,conZ⟩,⟨50,conL { c with state := 7 } (.slice v1a c.r.held.length v1c)⟩,⟨50,conL { c with state := 7 } (.slice v1a c.r.held.length v1c)⟩],[],[ownF w.heap.size (.slice v1a c.r.held.length v1c) 2 (c.r.held.map pceCells),slF (.slice Acrh c.r.held.length Ccrh) 2 (c.r.held.map pceCells)]⟩ ?_
 refine kQ ?_
 refine kEF [1,2,3,6] ⟨[(1,.p 0 0),(2,.p 1 0),(3,.p 2 0),(6,.p 3 0)],[⟨50,conL c (.slice Acrh c.r.held.length Ccrh)⟩,⟨50,conZ⟩,⟨50,conL { c with state := 7 } (.slice v1a c.r.held.length v1c)⟩,⟨50,conL { c with state := 7,timer := 0 } (.slice v1a c.r.held.length v1c)⟩],[],[ownF w.heap.size (.slice v1a c.r.held.length v1c) 2 (c.r.held.map pceCells),slF (.slice Acrh c.r.held.length Ccrh) 2 (c.r.held.map pceCells)]⟩ ?_
 refine kS ?_
 refine kS ?_
 refine xw_join ⟨[(1,.p 0 0),(2,.p 1 0),(3,.p 2 0),(85,.v (.bool ((!(conOk ({ c with state := 7,timer := 0 }))) || (!(inB c.timer 0 4)))))],[⟨50,conL c (.slice Acrh c.r.held.length Ccrh)⟩,⟨50,conZ⟩,⟨50,conL { c with state := 7 } (.slice v1a c.r.held.length v1c)⟩,⟨50,conL { c with state := 7,timer := 0 } (.slice v1a c.r.held.length v1c)⟩],[],[ownF w.heap.size (.slice v1a c.r.held.length v1c) 2 (c.r.held.map pceCells),slF (.slice Acrh c.r.held.length Ccrh) 2 (c.r.held.map pceCells)]⟩ ?_ ?_
 refine kG ?_
 refine kCS 1 [1,2,3,77] [(1,.p 0 0),(2,.p 1 0),(3,.p 2 0),(77,.v (.agg (conL { c with state := 7,timer := 0 } (.slice v1a c.r.held.length v1c)).toArray))] 93 [.agg (conL { c with state := 7,timer := 0 } (.slice v1a c.r.held.length v1c)).toArray] (some 78) rfl (xc_b fun ww hf => yiConnOk_c ({ c with state := 7,timer := 0 }) (.slice v1a c.r.held.length v1c) ww (Own.sl (hf _ m0)) (by assumption) (by omega)) ?_
 intro _
 refine kRS 2 [1,2,3,80] [(1,.p 0 0),(2,.p 1 0),(3,.p 2 0),(80,.v (.bool (!(conOk ({ c with state := 7,timer := 0 })))))] ?_
 refine kP 80 (!(conOk ({ c with state := 7,timer := 0 }))) (fun h25 => ?_) (fun h25 => ?_)
 have h25n := not_t h25
 refine kES [1,2,3,85] [(1,.p 0 0),(2,.p 1 0),(3,.p 2 0),(85,.v (.bool true))] ?_
 show Wk _ _
 try rw [h25]
 exact kF 4 0 [1,2,3,85]
 have h25n := not_f h25
 refine kCS 2 [1,2,3,80,82] [(1,.p 0 0),(2,.p 1 0),(3,.p 2 0),(80,.v (.bool false)),(82,.v (.int .i64 c.timer))] 77 [.int .i64 c.timer,.int .i64 0,.int .i64 4] (some 83) rfl (xc_s fun ww hf => within_c c.timer 0 4 ww ) ?_
 intro _
 refine kES [1,2,3,85] [(1,.p 0 0),(2,.p 1 0),(3,.p 2 0),(85,.v (.bool (!(inB c.timer 0 4))))] ?_
 show Wk _ _
 try rw [h25]
 exact kF 4 0 [1,2,3,85]
 refine kC ((!(conOk ({ c with state := 7,timer := 0 }))) || (!(inB c.timer 0 4))) (fun h26 => ?_) (fun h26 => ?_)
 refine kQ ?_
 refine kCS 1 [2,86] [(2,.p 1 0),(86,.v (.agg (conL c (.slice Acrh c.r.held.length Ccrh)).toArray))] 62 [.agg (conL c (.slice Acrh c.r.held.length Ccrh)).toArray] (some 87) rfl (xc_r fun ww hw hf => ycloneConn_c c (.slice Acrh c.r.held.length Ccrh) ww (hf _ m1) (by assumption) w.heap.size hw) ?_
 rintro ⟨v27a,v27c⟩
 refine kEF [2] ⟨[(2,.p 1 0)],[⟨50,conL c (.slice Acrh c.r.held.length Ccrh)⟩,⟨50,conL c (.slice v27a c.r.held.length v27c)⟩,⟨50,conL { c with state := 7 } (.slice v1a c.r.held.length v1c)⟩,⟨50,conL { c with state := 7,timer := 0 } (.slice v1a c.r.held.length v1c)⟩],[],[ownF w.heap.size (.slice v27a c.r.held.length v27c) 2 (c.r.held.map pceCells),ownF w.heap.size (.slice v1a c.r.held.length v1c) 2 (c.r.held.map pceCells),slF (.slice Acrh c.r.held.length Ccrh) 2 (c.r.held.map pceCells)]⟩ ?_
 refine kR ?_
 have hmod : turned c = c := by first | rfl | (simp [turned, *]; done) | grind [turned] | grind [turned,turnState]
 exact ⟨[.agg (conL c (.slice v27a c.r.held.length v27c)).toArray],by kernel_rfl,fun w' hb hf ha => by rw [hmod]; exact xo1 ((v27a,v27c)) rfl rfl (pO (hf _ m0) hB) hb⟩
 have h26l := or_l h26
 have h26ln := not_f h26l
 have h26r := or_r h26
 have h26rn := not_f h26r
 have h26rni := inB_tt.1 (show inB c.timer 0 4 = true from by simpa using h26rn)
 refine kK ?_
 refine kS ?_
 refine kQ ?_
 refine kES [2,3,89] [(2,.p 1 0),(3,.p 2 0),(89,.v (.int .i64 7))] ?_
 refine xw_block ?_
 refine kQ ?_
 refine kES [2,3,89,90] [(2,.p 1 0),(3,.p 2 0),(89,.v (.int .i64 7)),(90,.v (.bool true))] ?_
 refine kT ?_
 refine kG ?_
 refine kEF [2,3] ⟨[(2,.p 1 0),(3,.p 2 0)],[⟨50,conL c (.slice Acrh c.r.held.length Ccrh)⟩,⟨50,conZ⟩,⟨50,conL { c with state := 7,timer := 4,tries := 0 } (.slice v1a c.r.held.length v1c)⟩,⟨50,conL { c with state := 7,timer := 0 } (.slice v1a c.r.held.length v1c)⟩],[],[ownF w.heap.size (.slice v1a c.r.held.length v1c) 2 (c.r.held.map pceCells),slF (.slice Acrh c.r.held.length Ccrh) 2 (c.r.held.map pceCells)]⟩ ?_
 refine kQ ?_
 refine kEF [2] ⟨[(2,.p 1 0)],[⟨50,conL c (.slice Acrh c.r.held.length Ccrh)⟩,⟨50,conL { c with state := 7,timer := 4,tries := 0 } (.slice v1a c.r.held.length v1c)⟩,⟨50,conL { c with state := 7,timer := 4,tries := 0 } (.slice v1a c.r.held.length v1c)⟩,⟨50,conL { c with state := 7,timer := 0 } (.slice v1a c.r.held.length v1c)⟩],[],[ownF w.heap.size (.slice v1a c.r.held.length v1c) 2 (c.r.held.map pceCells),slF (.slice Acrh c.r.held.length Ccrh) 2 (c.r.held.map pceCells)]⟩ ?_
 refine kR ?_
 have hmod : turned c = ({ c with state := 7,timer := 4,tries := 0 }) := by first | rfl | (simp [turned, *]; done) | grind [turned] | grind [turned,turnState]
 exact ⟨[.agg (conL { c with state := 7,timer := 4,tries := 0 } (.slice v1a c.r.held.length v1c)).toArray],by kernel_rfl,fun w' hb hf ha => by rw [hmod]; exact xo1 ((v1a,v1c)) rfl rfl (pO (hf _ m0) hB) hb⟩
 refine kS ?_
 refine xw_join ⟨[(1,.p 0 0),(2,.p 1 0),(3,.p 2 0),(4,.v (.bool c.s.done)),(59,.v (.bool ((c.state == 5) && c.s.done)))],[⟨50,conL c (.slice Acrh c.r.held.length Ccrh)⟩,⟨50,conZ⟩,⟨50,conL c (.slice v1a c.r.held.length v1c)⟩],[],[ownF w.heap.size (.slice v1a c.r.held.length v1c) 2 (c.r.held.map pceCells),slF (.slice Acrh c.r.held.length Ccrh) 2 (c.r.held.map pceCells)]⟩ ?_ ?_
 refine kG ?_
 refine kRS 4 [1,2,3,4,63] [(1,.p 0 0),(2,.p 1 0),(3,.p 2 0),(4,.v (.bool c.s.done)),(63,.v (.bool (c.state == 5)))] ?_
 refine kP 63 (c.state == 5) (fun h28 => ?_) (fun h28 => ?_)
 have h28p := eqT h28
 refine kES [1,2,3,4,59] [(1,.p 0 0),(2,.p 1 0),(3,.p 2 0),(4,.v (.bool c.s.done)),(59,.v (.bool c.s.done))] ?_
 show Wk _ _
 try rw [h28]
 exact kF 3 0 [1,2,3,4,59]
 have h28p := eqF h28
 refine kES [1,2,3,4,59] [(1,.p 0 0),(2,.p 1 0),(3,.p 2 0),(4,.v (.bool c.s.done)),(59,.v (.bool false))] ?_
 show Wk _ _
 try rw [h28]
 exact kF 3 0 [1,2,3,4,59]
 refine kC ((c.state == 5) && c.s.done) (fun h29 => ?_) (fun h29 => ?_)
 have h29l := and_l h29
 have h29lp := eqT h29l
 have h29r := and_r h29
 refine kG ?_
 refine kEF [1,2,3] ⟨[(1,.p 0 0),(2,.p 1 0),(3,.p 2 0)],[⟨50,conL c (.slice Acrh c.r.held.length Ccrh)⟩,⟨50,conZ⟩,⟨50,conL { c with state := 7 } (.slice v1a c.r.held.length v1c)⟩],[],[ownF w.heap.size (.slice v1a c.r.held.length v1c) 2 (c.r.held.map pceCells),slF (.slice Acrh c.r.held.length Ccrh) 2 (c.r.held.map pceCells)]⟩ ?_
 refine kQ ?_
 refine kEF [1,2,3,6] ⟨[(1,.p 0 0),(2,.p 1 0),(3,.p 2 0),(6,.p 3 0)],[⟨50,conL c (.slice Acrh c.r.held.length Ccrh)⟩,⟨50,conZ⟩,⟨50,conL { c with state := 7 } (.slice v1a c.r.held.length v1c)⟩,⟨50,conL { c with state := 7 } (.slice v1a c.r.held.length v1c)⟩],[],[ownF w.heap.size (.slice v1a c.r.held.length v1c) 2 (c.r.held.map pceCells),slF (.slice Acrh c.r.held.length Ccrh) 2 (c.r.held.map pceCells)]⟩ ?_
 refine kQ ?_
 refine kEF [1,2,3,6] ⟨[(1,.p 0 0),(2,.p 1 0),(3,.p 2 0),(6,.p 3 0)],[⟨50,conL c (.slice Acrh c.r.held.length Ccrh)⟩,⟨50,conZ⟩,⟨50,conL { c with state := 7 } (.slice v1a c.r.held.length v1c)⟩,⟨50,conL { c with state := 7,timer := 0 } (.slice v1a c.r.held.length v1c)⟩],[],[ownF w.heap.size (.slice v1a c.r.held.length v1c) 2 (c.r.held.map pceCells),slF (.slice Acrh c.r.held.length Ccrh) 2 (c.r.held.map pceCells)]⟩ ?_
 refine kS ?_
 refine kS ?_
 refine xw_join ⟨[(1,.p 0 0),(2,.p 1 0),(3,.p 2 0),(85,.v (.bool ((!(conOk ({ c with state := 7,timer := 0 }))) || (!(inB c.timer 0 4)))))],[⟨50,conL c (.slice Acrh c.r.held.length Ccrh)⟩,⟨50,conZ⟩,⟨50,conL { c with state := 7 } (.slice v1a c.r.held.length v1c)⟩,⟨50,conL { c with state := 7,timer := 0 } (.slice v1a c.r.held.length v1c)⟩],[],[ownF w.heap.size (.slice v1a c.r.held.length v1c) 2 (c.r.held.map pceCells),slF (.slice Acrh c.r.held.length Ccrh) 2 (c.r.held.map pceCells)]⟩ ?_ ?_
 refine kG ?_
 refine kCS 1 [1,2,3,77] [(1,.p 0 0),(2,.p 1 0),(3,.p 2 0),(77,.v (.agg (conL { c with state := 7,timer := 0 } (.slice v1a c.r.held.length v1c)).toArray))] 93 [.agg (conL { c with state := 7,timer := 0 } (.slice v1a c.r.held.length v1c)).toArray] (some 78) rfl (xc_b fun ww hf => yiConnOk_c ({ c with state := 7,timer := 0 }) (.slice v1a c.r.held.length v1c) ww (Own.sl (hf _ m0)) (by assumption) (by omega)) ?_
 intro _
 refine kRS 2 [1,2,3,80] [(1,.p 0 0),(2,.p 1 0),(3,.p 2 0),(80,.v (.bool (!(conOk ({ c with state := 7,timer := 0 })))))] ?_
 refine kP 80 (!(conOk ({ c with state := 7,timer := 0 }))) (fun h30 => ?_) (fun h30 => ?_)
 have h30n := not_t h30
 refine kES [1,2,3,85] [(1,.p 0 0),(2,.p 1 0),(3,.p 2 0),(85,.v (.bool true))] ?_
 show Wk _ _
 try rw [h30]
 exact kF 4 0 [1,2,3,85]
 have h30n := not_f h30
 refine kCS 2 [1,2,3,80,82] [(1,.p 0 0),(2,.p 1 0),(3,.p 2 0),(80,.v (.bool false)),(82,.v (.int .i64 c.timer))] 77 [.int .i64 c.timer,.int .i64 0,.int .i64 4] (some 83) rfl (xc_s fun ww hf => within_c c.timer 0 4 ww ) ?_
 intro _
 refine kES [1,2,3,85] [(1,.p 0 0),(2,.p 1 0),(3,.p 2 0),(85,.v (.bool (!(inB c.timer 0 4))))] ?_
 show Wk _ _
 try rw [h30]
 exact kF 4 0 [1,2,3,85]
 refine kC ((!(conOk ({ c with state := 7,timer := 0 }))) || (!(inB c.timer 0 4))) (fun h31 => ?_) (fun h31 => ?_)
 refine kQ ?_
 refine kCS 1 [2,86] [(2,.p 1 0),(86,.v (.agg (conL c (.slice Acrh c.r.held.length Ccrh)).toArray))] 62 [.agg (conL c (.slice Acrh c.r.held.length Ccrh)).toArray] (some 87) rfl (xc_r fun ww hw hf => ycloneConn_c c (.slice Acrh c.r.held.length Ccrh) ww (hf _ m1) (by assumption) w.heap.size hw) ?_
 rintro ⟨v32a,v32c⟩
 refine kEF [2] ⟨[(2,.p 1 0)],[⟨50,conL c (.slice Acrh c.r.held.length Ccrh)⟩,⟨50,conL c (.slice v32a c.r.held.length v32c)⟩,⟨50,conL { c with state := 7 } (.slice v1a c.r.held.length v1c)⟩,⟨50,conL { c with state := 7,timer := 0 } (.slice v1a c.r.held.length v1c)⟩],[],[ownF w.heap.size (.slice v32a c.r.held.length v32c) 2 (c.r.held.map pceCells),ownF w.heap.size (.slice v1a c.r.held.length v1c) 2 (c.r.held.map pceCells),slF (.slice Acrh c.r.held.length Ccrh) 2 (c.r.held.map pceCells)]⟩ ?_
 refine kR ?_
 have hmod : turned c = c := by first | rfl | (simp [turned, *]; done) | grind [turned] | grind [turned,turnState]
 exact ⟨[.agg (conL c (.slice v32a c.r.held.length v32c)).toArray],by kernel_rfl,fun w' hb hf ha => by rw [hmod]; exact xo1 ((v32a,v32c)) rfl rfl (pO (hf _ m0) hB) hb⟩
 have h31l := or_l h31
 have h31ln := not_f h31l
 have h31r := or_r h31
 have h31rn := not_f h31r
 have h31rni := inB_tt.1 (show inB c.timer 0 4 = true from by simpa using h31rn)
 refine kK ?_
 refine kS ?_
 refine kQ ?_
 refine kES [2,3,89] [(2,.p 1 0),(3,.p 2 0),(89,.v (.int .i64 7))] ?_
 refine xw_block ?_
 refine kQ ?_
 refine kES [2,3,89,90] [(2,.p 1 0),(3,.p 2 0),(89,.v (.int .i64 7)),(90,.v (.bool true))] ?_
 refine kT ?_
 refine kG ?_
 refine kEF [2,3] ⟨[(2,.p 1 0),(3,.p 2 0)],[⟨50,conL c (.slice Acrh c.r.held.length Ccrh)⟩,⟨50,conZ⟩,⟨50,conL { c with state := 7,timer := 4,tries := 0 } (.slice v1a c.r.held.length v1c)⟩,⟨50,conL { c with state := 7,timer := 0 } (.slice v1a c.r.held.length v1c)⟩],[],[ownF w.heap.size (.slice v1a c.r.held.length v1c) 2 (c.r.held.map pceCells),slF (.slice Acrh c.r.held.length Ccrh) 2 (c.r.held.map pceCells)]⟩ ?_
 refine kQ ?_
 refine kEF [2] ⟨[(2,.p 1 0)],[⟨50,conL c (.slice Acrh c.r.held.length Ccrh)⟩,⟨50,conL { c with state := 7,timer := 4,tries := 0 } (.slice v1a c.r.held.length v1c)⟩,⟨50,conL { c with state := 7,timer := 4,tries := 0 } (.slice v1a c.r.held.length v1c)⟩,⟨50,conL { c with state := 7,timer := 0 } (.slice v1a c.r.held.length v1c)⟩],[],[ownF w.heap.size (.slice v1a c.r.held.length v1c) 2 (c.r.held.map pceCells),slF (.slice Acrh c.r.held.length Ccrh) 2 (c.r.held.map pceCells)]⟩ ?_
 refine kR ?_
 have hmod : turned c = ({ c with state := 7,timer := 4,tries := 0 }) := by first | rfl | (simp [turned, *]; done) | grind [turned] | grind [turned,turnState]
 exact ⟨[.agg (conL { c with state := 7,timer := 4,tries := 0 } (.slice v1a c.r.held.length v1c)).toArray],by kernel_rfl,fun w' hb hf ha => by rw [hmod]; exact xo1 ((v1a,v1c)) rfl rfl (pO (hf _ m0) hB) hb⟩
 refine kS ?_
 refine xw_join ⟨[(1,.p 0 0),(2,.p 1 0),(3,.p 2 0),(67,.v (.bool ((c.state == 6) && c.s.done)))],[⟨50,conL c (.slice Acrh c.r.held.length Ccrh)⟩,⟨50,conZ⟩,⟨50,conL c (.slice v1a c.r.held.length v1c)⟩],[],[ownF w.heap.size (.slice v1a c.r.held.length v1c) 2 (c.r.held.map pceCells),slF (.slice Acrh c.r.held.length Ccrh) 2 (c.r.held.map pceCells)]⟩ ?_ ?_
 refine kG ?_
 refine kRS 4 [1,2,3,4,71] [(1,.p 0 0),(2,.p 1 0),(3,.p 2 0),(4,.v (.bool c.s.done)),(71,.v (.bool (c.state == 6)))] ?_
 refine kP 71 (c.state == 6) (fun h33 => ?_) (fun h33 => ?_)
 have h33p := eqT h33
 refine kES [1,2,3,67] [(1,.p 0 0),(2,.p 1 0),(3,.p 2 0),(67,.v (.bool c.s.done))] ?_
 show Wk _ _
 try rw [h33]
 exact kF 3 0 [1,2,3,67]
 have h33p := eqF h33
 refine kES [1,2,3,67] [(1,.p 0 0),(2,.p 1 0),(3,.p 2 0),(67,.v (.bool false))] ?_
 show Wk _ _
 try rw [h33]
 exact kF 3 0 [1,2,3,67]
 refine kC ((c.state == 6) && c.s.done) (fun h34 => ?_) (fun h34 => ?_)
 have h34l := and_l h34
 have h34lp := eqT h34l
 have h34r := and_r h34
 refine kG ?_
 refine kEF [1,2,3] ⟨[(1,.p 0 0),(2,.p 1 0),(3,.p 2 0)],[⟨50,conL c (.slice Acrh c.r.held.length Ccrh)⟩,⟨50,conZ⟩,⟨50,conL { c with state := 8 } (.slice v1a c.r.held.length v1c)⟩],[],[ownF w.heap.size (.slice v1a c.r.held.length v1c) 2 (c.r.held.map pceCells),slF (.slice Acrh c.r.held.length Ccrh) 2 (c.r.held.map pceCells)]⟩ ?_
 refine kQ ?_
 refine kEF [1,2,3,6] ⟨[(1,.p 0 0),(2,.p 1 0),(3,.p 2 0),(6,.p 3 0)],[⟨50,conL c (.slice Acrh c.r.held.length Ccrh)⟩,⟨50,conZ⟩,⟨50,conL { c with state := 8 } (.slice v1a c.r.held.length v1c)⟩,⟨50,conL { c with state := 8 } (.slice v1a c.r.held.length v1c)⟩],[],[ownF w.heap.size (.slice v1a c.r.held.length v1c) 2 (c.r.held.map pceCells),slF (.slice Acrh c.r.held.length Ccrh) 2 (c.r.held.map pceCells)]⟩ ?_
 refine kQ ?_
 refine kEF [1,2,3,6] ⟨[(1,.p 0 0),(2,.p 1 0),(3,.p 2 0),(6,.p 3 0)],[⟨50,conL c (.slice Acrh c.r.held.length Ccrh)⟩,⟨50,conZ⟩,⟨50,conL { c with state := 8 } (.slice v1a c.r.held.length v1c)⟩,⟨50,conL { c with state := 8,timer := 0 } (.slice v1a c.r.held.length v1c)⟩],[],[ownF w.heap.size (.slice v1a c.r.held.length v1c) 2 (c.r.held.map pceCells),slF (.slice Acrh c.r.held.length Ccrh) 2 (c.r.held.map pceCells)]⟩ ?_
 refine kS ?_
 refine kS ?_
 refine xw_join ⟨[(1,.p 0 0),(2,.p 1 0),(3,.p 2 0),(85,.v (.bool ((!(conOk ({ c with state := 8,timer := 0 }))) || (!(inB c.timer 0 4)))))],[⟨50,conL c (.slice Acrh c.r.held.length Ccrh)⟩,⟨50,conZ⟩,⟨50,conL { c with state := 8 } (.slice v1a c.r.held.length v1c)⟩,⟨50,conL { c with state := 8,timer := 0 } (.slice v1a c.r.held.length v1c)⟩],[],[ownF w.heap.size (.slice v1a c.r.held.length v1c) 2 (c.r.held.map pceCells),slF (.slice Acrh c.r.held.length Ccrh) 2 (c.r.held.map pceCells)]⟩ ?_ ?_
 refine kG ?_
 refine kCS 1 [1,2,3,77] [(1,.p 0 0),(2,.p 1 0),(3,.p 2 0),(77,.v (.agg (conL { c with state := 8,timer := 0 } (.slice v1a c.r.held.length v1c)).toArray))] 93 [.agg (conL { c with state := 8,timer := 0 } (.slice v1a c.r.held.length v1c)).toArray] (some 78) rfl (xc_b fun ww hf => yiConnOk_c ({ c with state := 8,timer := 0 }) (.slice v1a c.r.held.length v1c) ww (Own.sl (hf _ m0)) (by assumption) (by omega)) ?_
 intro _
 refine kRS 2 [1,2,3,80] [(1,.p 0 0),(2,.p 1 0),(3,.p 2 0),(80,.v (.bool (!(conOk ({ c with state := 8,timer := 0 })))))] ?_
 refine kP 80 (!(conOk ({ c with state := 8,timer := 0 }))) (fun h35 => ?_) (fun h35 => ?_)
 have h35n := not_t h35
 refine kES [1,2,3,85] [(1,.p 0 0),(2,.p 1 0),(3,.p 2 0),(85,.v (.bool true))] ?_
 show Wk _ _
 try rw [h35]
 exact kF 4 0 [1,2,3,85]
 have h35n := not_f h35
 refine kCS 2 [1,2,3,80,82] [(1,.p 0 0),(2,.p 1 0),(3,.p 2 0),(80,.v (.bool false)),(82,.v (.int .i64 c.timer))] 77 [.int .i64 c.timer,.int .i64 0,.int .i64 4] (some 83) rfl (xc_s fun ww hf => within_c c.timer 0 4 ww ) ?_
 intro _
 refine kES [1,2,3,85] [(1,.p 0 0),(2,.p 1 0),(3,.p 2 0),(85,.v (.bool (!(inB c.timer 0 4))))] ?_
 show Wk _ _
 try rw [h35]
 exact kF 4 0 [1,2,3,85]
 refine kC ((!(conOk ({ c with state := 8,timer := 0 }))) || (!(inB c.timer 0 4))) (fun h36 => ?_) (fun h36 => ?_)
 refine kQ ?_
 refine kCS 1 [2,86] [(2,.p 1 0),(86,.v (.agg (conL c (.slice Acrh c.r.held.length Ccrh)).toArray))] 62 [.agg (conL c (.slice Acrh c.r.held.length Ccrh)).toArray] (some 87) rfl (xc_r fun ww hw hf => ycloneConn_c c (.slice Acrh c.r.held.length Ccrh) ww (hf _ m1) (by assumption) w.heap.size hw) ?_
 rintro ⟨v37a,v37c⟩
 refine kEF [2] ⟨[(2,.p 1 0)],[⟨50,conL c (.slice Acrh c.r.held.length Ccrh)⟩,⟨50,conL c (.slice v37a c.r.held.length v37c)⟩,⟨50,conL { c with state := 8 } (.slice v1a c.r.held.length v1c)⟩,⟨50,conL { c with state := 8,timer := 0 } (.slice v1a c.r.held.length v1c)⟩],[],[ownF w.heap.size (.slice v37a c.r.held.length v37c) 2 (c.r.held.map pceCells),ownF w.heap.size (.slice v1a c.r.held.length v1c) 2 (c.r.held.map pceCells),slF (.slice Acrh c.r.held.length Ccrh) 2 (c.r.held.map pceCells)]⟩ ?_
 refine kR ?_
 have hmod : turned c = c := by first | rfl | (simp [turned, *]; done) | grind [turned] | grind [turned,turnState]
 exact ⟨[.agg (conL c (.slice v37a c.r.held.length v37c)).toArray],by kernel_rfl,fun w' hb hf ha => by rw [hmod]; exact xo1 ((v37a,v37c)) rfl rfl (pO (hf _ m0) hB) hb⟩
 have h36l := or_l h36
 have h36ln := not_f h36l
 have h36r := or_r h36
 have h36rn := not_f h36r
 have h36rni := inB_tt.1 (show inB c.timer 0 4 = true from by simpa using h36rn)
 refine kK ?_
 refine kS ?_
 refine kQ ?_
 refine kES [2,3,89] [(2,.p 1 0),(3,.p 2 0),(89,.v (.int .i64 8))] ?_
 refine xw_block ?_
 refine kQ ?_
 refine kES [2,3,89,90] [(2,.p 1 0),(3,.p 2 0),(89,.v (.int .i64 8)),(90,.v (.bool false))] ?_
 refine kN ?_
 refine kQ ?_
 refine kES [2,3,94] [(2,.p 1 0),(3,.p 2 0),(94,.v (.bool true))] ?_
 refine kT ?_
 refine kG ?_
 refine kEF [2,3] ⟨[(2,.p 1 0),(3,.p 2 0)],[⟨50,conL c (.slice Acrh c.r.held.length Ccrh)⟩,⟨50,conZ⟩,⟨50,conL { c with state := 8,timer := 0,tries := 0 } (.slice v1a c.r.held.length v1c)⟩,⟨50,conL { c with state := 8,timer := 0 } (.slice v1a c.r.held.length v1c)⟩],[],[ownF w.heap.size (.slice v1a c.r.held.length v1c) 2 (c.r.held.map pceCells),slF (.slice Acrh c.r.held.length Ccrh) 2 (c.r.held.map pceCells)]⟩ ?_
 refine kQ ?_
 refine kEF [2] ⟨[(2,.p 1 0)],[⟨50,conL c (.slice Acrh c.r.held.length Ccrh)⟩,⟨50,conL { c with state := 8,timer := 0,tries := 0 } (.slice v1a c.r.held.length v1c)⟩,⟨50,conL { c with state := 8,timer := 0,tries := 0 } (.slice v1a c.r.held.length v1c)⟩,⟨50,conL { c with state := 8,timer := 0 } (.slice v1a c.r.held.length v1c)⟩],[],[ownF w.heap.size (.slice v1a c.r.held.length v1c) 2 (c.r.held.map pceCells),slF (.slice Acrh c.r.held.length Ccrh) 2 (c.r.held.map pceCells)]⟩ ?_
 refine kR ?_
 have hmod : turned c = ({ c with state := 8,timer := 0,tries := 0 }) := by first | rfl | (simp [turned, *]; done) | grind [turned] | grind [turned,turnState]
 exact ⟨[.agg (conL { c with state := 8,timer := 0,tries := 0 } (.slice v1a c.r.held.length v1c)).toArray],by kernel_rfl,fun w' hb hf ha => by rw [hmod]; exact xo1 ((v1a,v1c)) rfl rfl (pO (hf _ m0) hB) hb⟩
 refine kQ ?_
 refine kEF [2] ⟨[(2,.p 1 0)],[⟨50,conL c (.slice Acrh c.r.held.length Ccrh)⟩,⟨50,conL c (.slice v1a c.r.held.length v1c)⟩,⟨50,conL c (.slice v1a c.r.held.length v1c)⟩],[],[ownF w.heap.size (.slice v1a c.r.held.length v1c) 2 (c.r.held.map pceCells),slF (.slice Acrh c.r.held.length Ccrh) 2 (c.r.held.map pceCells)]⟩ ?_
 refine kR ?_
 have hmod : turned c = c := by first | rfl | (simp [turned, *]; done) | grind [turned] | grind [turned,turnState]
 exact ⟨[.agg (conL c (.slice v1a c.r.held.length v1c)).toArray],by kernel_rfl,fun w' hb hf ha => by rw [hmod]; exact xo1 ((v1a,v1c)) rfl rfl (pO (hf _ m0) hB) hb⟩
theorem ymarkText_c (k : Int) (w : World) (hk : k ≤ 4611686018427387904) : Calls Try.prog 84 #[.int .i64 k] w fun e w' => e = .returned (.string (markText k)) ∧ Below w.heap.size w w' := by
 refine x_calls (args := [.int .i64 k]) (fn := Try.f84) [] Try.func84 rfl Try.ntmps84 rfl (by simp) ?_
 refine kQ ?_
 refine kEF [0] ⟨[(0,.v (.int .i64 k))],[],[],[]⟩ ?_
 refine kS ?_
 refine kQ ?_
 refine kES [0,5] [(0,.v (.int .i64 k)),(5,.v (.bool (decide (k ≤ 0))))] ?_
 refine kC (decide (k ≤ 0)) (fun h1 => ?_) (fun h1 => ?_)
 have h1p := of_decide_eq_true h1
 refine kQ ?_
 refine kES [2] [(2,.v (.string (⟨#[109,48]⟩ : ByteArray)))] ?_
 refine kR ?_
 have hmod : markText k = (⟨#[109,48]⟩ : ByteArray) := by first | rfl | (simp [markText, *]; done) | (rw [markText,if_neg (by omega),hE])
 exact ⟨[.string (⟨#[109,48]⟩ : ByteArray)],by kernel_rfl,fun w' hb hf => by rw [hmod]; exact ⟨rfl,hb⟩⟩
 have h1p := of_decide_eq_false h1
 refine kK ?_
 refine kQ ?_
 refine kES [0,3] [(0,.v (.int .i64 k)),(3,.v (.string (⟨#[]⟩ : ByteArray)))] ?_
 refine kS ?_
 refine xw_block ?_
 refine xw_loopW (α := {x : Int × ByteArray // (fun (z : Int) (out : ByteArray) => markLoop k (⟨#[]⟩ : ByteArray) = markLoop z out ∧ out.size + z.toNat ≤ k.toNat) x.1 x.2}) (fun x => (fun (z : Int) (out : ByteArray) => (⟨[(0,.v (.int .i64 z)),(3,.v (.string out))],[],[],[]⟩ : St)) x.1.1 x.1.2) (fun x => (fun (z : Int) (out : ByteArray) => z.toNat) x.1.1 x.1.2) ⟨(k,(⟨#[]⟩ : ByteArray)),⟨rfl,Nat.le_of_eq (Nat.zero_add _)⟩⟩ (kF 0 0 [0,3]) ?_
 rintro ⟨⟨z,out⟩,HK,hR⟩
 try dsimp only
 try dsimp only at HK hR
 refine kS ?_
 refine kQ ?_
 refine kES [0,3,7] [(0,.v (.int .i64 z)),(3,.v (.string out)),(7,.v (.bool (decide (z > 0))))] ?_
 refine kC (decide (z > 0)) (fun h2 => ?_) (fun h2 => ?_)
 have h2p := of_decide_eq_true h2
 have hz : 0 < z := by simpa using h2
 refine kK ?_
 refine xw_block ?_
 refine kQ ?_
 refine kOS 1 [0,3,8] [(0,.v (.int .i64 z)),(3,.v (.string out)),(8,.v (.int .i64 z))] (.int .i64 (Int.tmod z 10)) rfl (fun _ _ _ ww hr => act_bin hr.1 rfl (by kernel_rfl) (by kernel_rfl) (rem_run (by first | decide | omega) ww)) ?_
 refine kHS 2 [0,3,11] [(0,.v (.int .i64 z)),(3,.v (.string out)),(11,.v (.int .u8 (IntKind.u8.wrap (IntKind.i64.wrap (48 + (Int.tmod z 10))))))] rfl (hv_build (e := 5) (K := 1) (bytes := 1) [.int .u8 (IntKind.u8.wrap (IntKind.i64.wrap (48 + (Int.tmod z 10))))] rfl (by kernel_rfl) (by kernel_rfl) (by kernel_rfl) (by kernel_rfl) (by kernel_rfl) (rs := ([IntKind.u8.wrap (IntKind.i64.wrap (48 + (Int.tmod z 10)))] : List Int).map byteRow) rfl) ?_
 intro g3
 refine kOS 0 [0,3,12] [(0,.v (.int .i64 z)),(3,.v (.string out)),(12,.v (.slice (some ⟨g3,0,none⟩) 1 1))] (.string (bstr ([IntKind.u8.wrap (IntKind.i64.wrap (48 + (Int.tmod z 10)))] : List Int))) rfl (fun _ _ _ ww hr => act_b2s (e := 5) ([IntKind.u8.wrap (IntKind.i64.wrap (48 + (Int.tmod z 10)))] : List Int) hr.1 rfl (by kernel_rfl) (by kernel_rfl) (by kernel_rfl) rfl (rowF_sl (hr.2.fact (rowF w.heap.size 5 1 (.slice (some ⟨g3,0,none⟩) 1 1) (([IntKind.u8.wrap (IntKind.i64.wrap (48 + (Int.tmod z 10)))] : List Int).map byteRow)) (by simp)).1)) ?_
 refine kOS 1 [0,3,13,14] [(0,.v (.int .i64 z)),(3,.v (.string out)),(13,.v (.string (bstr ([IntKind.u8.wrap (IntKind.i64.wrap (48 + (Int.tmod z 10)))] : List Int)))),(14,.v (.string out))] (.string ((bstr ([IntKind.u8.wrap (IntKind.i64.wrap (48 + (Int.tmod z 10)))] : List Int)) ++ out)) rfl (fun _ _ _ ww hr => act_bin hr.1 rfl (by kernel_rfl) (by kernel_rfl) (str_add (mark_sz hz hR hk) ww)) ?_
 refine kRS 1 [0,3] [(0,.v (.int .i64 z)),(3,.v (.string ((bstr ([IntKind.u8.wrap (IntKind.i64.wrap (48 + (Int.tmod z 10)))] : List Int)) ++ out)))] ?_
 refine xl_eq (st' := ⟨[(0,.v (.int .i64 z)),(3,.v (.string ((bstr ([IntKind.u8.wrap (48 + z.tmod 10)] : List Int)) ++ out)))],[],[],[rowF w.heap.size 5 1 (.slice (some ⟨g3,0,none⟩) 1 1) (([IntKind.u8.wrap (48 + z.tmod 10)] : List Int).map byteRow)]⟩) (by rw [show (IntKind.i64.wrap (48 + (Int.tmod z 10))) = (48 + z.tmod 10) from wrap_tmod hz] <;> rfl) ?_
 refine kES [0,3] [(0,.v (.int .i64 z)),(3,.v (.string ((bstr ([IntKind.u8.wrap (48 + z.tmod 10)] : List Int)) ++ out)))] ?_
 refine kG ?_
 refine kOS 1 [0,3,16] [(0,.v (.int .i64 z)),(3,.v (.string ((bstr ([IntKind.u8.wrap (48 + z.tmod 10)] : List Int)) ++ out))),(16,.v (.int .i64 z))] (.int .i64 (IntKind.i64.wrap (Int.tdiv z 10))) rfl (fun _ _ _ ww hr => act_bin hr.1 rfl (by kernel_rfl) (by kernel_rfl) (quo_run (by decide) ww)) ?_
 refine kRS 1 [0,3] [(0,.v (.int .i64 (IntKind.i64.wrap (Int.tdiv z 10)))),(3,.v (.string ((bstr ([IntKind.u8.wrap (48 + z.tmod 10)] : List Int)) ++ out)))] ?_
 refine xl_eqS (t' := [(0,.v (.int .i64 (z.tdiv 10))),(3,.v (.string ((bstr ([IntKind.u8.wrap (48 + z.tmod 10)] : List Int)) ++ out)))]) (by rw [show (IntKind.i64.wrap (Int.tdiv z 10)) = (z.tdiv 10) from wrap_tdiv hz hR hk]) ?_
 refine kES [0,3] [(0,.v (.int .i64 (z.tdiv 10))),(3,.v (.string ((bstr ([IntKind.u8.wrap (48 + z.tmod 10)] : List Int)) ++ out)))] ?_
 exact ⟨⟨(z.tdiv 10,bstr [IntKind.u8.wrap (48 + z.tmod 10)] ++ out),⟨markLoop_step hz HK,mark_room hz hR⟩⟩,(wk_pick [] [] (by kernel_rfl) (by kernel_rfl)).trans <| kF 0 0 [0,3],by show (fun (z : Int) (out : ByteArray) => z.toNat) (z.tdiv 10) (bstr [IntKind.u8.wrap (48 + z.tmod 10)] ++ out) < z.toNat; exact mark_dec hz⟩
 have h2p := of_decide_eq_false h2
 have hz : ¬ 0 < z := by simpa using h2
 have hE := markLoop_end hz HK
 refine xw_exit ?_
 refine kQ ?_
 refine kOS 1 [18] [(18,.v (.string out))] (.string ((⟨#[109]⟩ : ByteArray) ++ out)) rfl (fun _ _ _ ww hr => act_bin hr.1 rfl (by kernel_rfl) (by kernel_rfl) (str_add (mark_sz0 hR hk) ww)) ?_
 refine kES [2] [(2,.v (.string ((⟨#[109]⟩ : ByteArray) ++ out)))] ?_
 refine kR ?_
 have hmod : markText k = ((⟨#[109]⟩ : ByteArray) ++ out) := by first | rfl | (simp [markText, *]; done) | (rw [markText,if_neg (by omega),hE])
 exact ⟨[.string ((⟨#[109]⟩ : ByteArray) ++ out)],by kernel_rfl,fun w' hb hf => by rw [hmod]; exact ⟨rfl,hb⟩⟩
theorem ymarkPieceS_c (v : Value) (l : List Pce) (k : Int) (w : World) (B : Nat) (hB : B ≤ w.heap.size) (h : Own w B v 2 (l.map pceCells)) (hk0 : 0 ≤ k) (hk : k ≤ 4503599627370496) (hl : l.length ≤ 1048576) : Calls Try.prog 46 #[v, .int .i64 k] w fun e w' => e = .returned (.int .i64 (k + 2 * (l.length : Int))) ∧ Own w' B v 2 ((marks mkP 2 k l.length).map pceCells) ∧ Chgd (ownF B v 2 (l.map pceCells)).blk w w' := by
 obtain ⟨A,cap,hv⟩ := h.form
 rw [List.length_map] at hv; subst hv
 refine x_callsM (args := [.slice A l.length cap,.int .i64 k]) (fn := Try.f46) [ownF B (.slice A l.length cap) 2 (l.map pceCells),frF w (ownF B (.slice A l.length cap) 2 (l.map pceCells)).blk] B Try.func46 rfl Try.ntmps46 rfl hB (by simp only [List.mem_cons,List.not_mem_nil,or_false,forall_eq_or_imp,forall_eq]; exact ⟨h,frF_start w _⟩) apart_fr ?_
 refine kQ ?_
 refine kEF [0,1] ⟨[(0,.v (.slice A l.length cap)),(1,.v (.int .i64 k))],[],[],[ownF B (.slice A l.length cap) 2 (l.map pceCells),frF w (ownF B (.slice A l.length cap) 2 (l.map pceCells)).blk]⟩ ?_
 refine kS ?_
 refine kQ ?_
 refine kES [0,1,5] [(0,.v (.slice A l.length cap)),(1,.v (.int .i64 k)),(5,.v (.int .i64 0))] ?_
 refine xw_block ?_
 have e0 : k + 2 * ((0 : Nat) : Int) = k := by omega
 refine xw_eq (st' := ⟨[(0,.v (.slice A l.length cap)),(1,.v (.int .i64 (k + 2 * ((0 : Nat) : Int)))),(5,.v (.int .i64 0))],[],[],[ownF B (.slice A l.length cap) 2 (l.map pceCells),frF w (ownF B (.slice A l.length cap) 2 (l.map pceCells)).blk]⟩) (by rw [e0]) ?_
 refine xw_loopW (α := {x : Nat // (fun (i : Nat) => i ≤ l.length) x}) (fun x => (fun (i : Nat) => (⟨[(0,.v (.slice A l.length cap)),(1,.v (.int .i64 (k + 2 * (i : Int)))),(5,.v (.int .i64 (i : Int)))],[],[],[ownF B (.slice A l.length cap) 2 ((marks mkP 2 k i ++ l.drop i).map pceCells),frF w (ownF B (.slice A l.length cap) 2 (l.map pceCells)).blk]⟩ : St)) x.1) (fun x => (fun (i : Nat) => l.length - i) x.1) ⟨(0),Nat.zero_le _⟩ (kF 0 0 [0,1,5]) ?_
 rintro ⟨i,hi⟩
 try dsimp only
 try dsimp only at hi
 refine kS ?_
 refine kQ ?_
 refine kES [0,1,5,9] [(0,.v (.slice A l.length cap)),(1,.v (.int .i64 (k + 2 * (i : Int)))),(5,.v (.int .i64 (i : Int))),(9,.v (.bool (decide ((i : Int) < ((l.length : Nat) : Int)))))] ?_
 refine kC (decide ((i : Int) < ((l.length : Nat) : Int))) (fun h1 => ?_) (fun h1 => ?_)
 have h1p := of_decide_eq_true h1
 have hlt : i < l.length := by simpa using h1
 obtain ⟨b,hb⟩ : ∃ b,b = k + 2 * (i : Int) := ⟨_,rfl⟩
 rw [← hb]
 obtain ⟨x,hx⟩ : ∃ x,l[i]? = some x := ⟨_,List.getElem?_eq_getElem hlt⟩
 refine xw_fact0 (g := ownF B (.slice A l.length cap) 2 (((marks mkP 2 k i ++ l.drop i).map pceCells).set i [.int .i64 x.off,.string x.text])) (congrArg (fun z => ownF B (.slice A l.length cap) 2 z) (mark_same (f := pceCells) (mk := mkP) (c := 2) (k := k) hx)) ?_
 refine kK ?_
 refine kS ?_
 refine xw_block ?_
 refine kQ ?_
 refine xl_elem (kd := .i64) (T := 26) (e := 81) (K := 2) (A := A) (len := l.length) (cap := cap) (rs := (((marks mkP 2 k i ++ l.drop i).map pceCells).set i [.int .i64 x.off,.string x.text])) 3 [0,1,5,12,13,14] ⟨[(0,.v (.slice A l.length cap)),(1,.v (.int .i64 b)),(5,.v (.int .i64 (i : Int))),(12,.v (.slice A l.length cap)),(13,.v (.int .i64 (i : Int))),(14,.v (.int .i64 b))],[],[],[ownF B (.slice A l.length cap) 2 (((marks mkP 2 k i ++ l.drop i).map pceCells).set i [.int .i64 x.off,.string x.text]),frF w (ownF B (.slice A l.length cap) 2 (l.map pceCells)).blk]⟩ i (ownF B (.slice A l.length cap) 2 (((marks mkP 2 k i ++ l.drop i).map pceCells).set i [.int .i64 x.off,.string x.text])) (by kernel_rfl) rfl (by kernel_rfl) (by kernel_rfl) rfl (by kernel_rfl) (by kernel_rfl) (by kernel_rfl) (by kernel_rfl) hlt (by simp) (fun ww h => Own.sl h) (by rw [List.length_set,mark_ln hi]; exact hlt) ?_
 intro b2 o3 hA4
 refine kOF 0 [0,1,5,14,15] ⟨[(0,.v (.slice A l.length cap)),(1,.v (.int .i64 b)),(5,.v (.int .i64 (i : Int))),(14,.v (.int .i64 b)),(15,.v (.pointer (some ⟨b2,o3 + i * 2,none⟩)))],[],[],[ownF B (.slice A l.length cap) 2 (((marks mkP 2 k i ++ l.drop i).map pceCells).set i [.int .i64 x.off,.string x.text]),frF w (ownF B (.slice A l.length cap) 2 (l.map pceCells)).blk]⟩ (.pointer (some ⟨b2,o3 + i * 2 + 0,none⟩)) rfl (fun _ _ _ ww hr => fld_run (sz := 1) hr rfl Try.underlying81 rfl (by kernel_rfl) rfl rfl (by first | rfl | omega)) ?_
 refine xl_stE (K := 2) (po := 0) (B := B) (rs := ((marks mkP 2 k i ++ l.drop i).map pceCells)) (row' := [.int .i64 b,.string x.text]) 0 [0,1,5,14,16] ⟨[(0,.v (.slice A l.length cap)),(1,.v (.int .i64 b)),(5,.v (.int .i64 (i : Int))),(14,.v (.int .i64 b)),(16,.v (.pointer (some ⟨b2,o3 + i * 2 + 0,none⟩)))],[],[],[ownF B (.slice A l.length cap) 2 (((marks mkP 2 k i ++ l.drop i).map pceCells).set i [.int .i64 x.off,.string x.text]),frF w (ownF B (.slice A l.length cap) 2 (l.map pceCells)).blk]⟩ i [.int .i64 x.off,.string x.text] 0 (by kernel_rfl) rfl (by kernel_rfl) rfl rfl rfl rfl (by kernel_rfl) (by kernel_rfl) rfl (cutW_le w B) hA4 (by rw [mark_ln hi]; exact hlt) (fun r hr => by obtain ⟨y,_,rfl⟩ := List.mem_map.1 hr; rfl) (by kernel_rfl) (by kernel_rfl) rfl rfl ?_
 refine kEF [0,1,5] ⟨[(0,.v (.slice A l.length cap)),(1,.v (.int .i64 b)),(5,.v (.int .i64 (i : Int)))],[],[],[ownF B (.slice A l.length cap) 2 (((marks mkP 2 k i ++ l.drop i).map pceCells).set i [.int .i64 b,.string x.text]),frF w (ownF B (.slice A l.length cap) 2 (l.map pceCells)).blk]⟩ ?_
 refine kQ ?_
 refine kRS 3 [0,1,5] [(0,.v (.slice A l.length cap)),(1,.v (.int .i64 (IntKind.i64.wrap (b + 1)))),(5,.v (.int .i64 (i : Int)))] ?_
 refine xl_eqS (t' := [(0,.v (.slice A l.length cap)),(1,.v (.int .i64 (b + 1))),(5,.v (.int .i64 (i : Int)))]) (by rw [show (IntKind.i64.wrap (b + 1)) = (b + 1) from wrap_id (by omega) (by omega)]) ?_
 refine kES [0,1,5] [(0,.v (.slice A l.length cap)),(1,.v (.int .i64 (b + 1))),(5,.v (.int .i64 (i : Int)))] ?_
 refine kQ ?_
 refine kCS 3 [0,1,5,19,20,21] [(0,.v (.slice A l.length cap)),(1,.v (.int .i64 (b + 1))),(5,.v (.int .i64 (i : Int))),(19,.v (.slice A l.length cap)),(20,.v (.int .i64 (i : Int))),(21,.v (.int .i64 (b + 1)))] 84 [.int .i64 (b + 1)] (some 22) rfl (xc_b fun ww hf => ymarkText_c (b + 1) ww  (by omega)) ?_
 intro _
 refine xl_elem (kd := .i64) (T := 26) (e := 81) (K := 2) (A := A) (len := l.length) (cap := cap) (rs := (((marks mkP 2 k i ++ l.drop i).map pceCells).set i [.int .i64 b,.string x.text])) 0 [0,1,5,19,20,22] ⟨[(0,.v (.slice A l.length cap)),(1,.v (.int .i64 (b + 1))),(5,.v (.int .i64 (i : Int))),(19,.v (.slice A l.length cap)),(20,.v (.int .i64 (i : Int))),(22,.v (.string (markText (b + 1))))],[],[],[ownF B (.slice A l.length cap) 2 (((marks mkP 2 k i ++ l.drop i).map pceCells).set i [.int .i64 b,.string x.text]),frF w (ownF B (.slice A l.length cap) 2 (l.map pceCells)).blk]⟩ i (ownF B (.slice A l.length cap) 2 (((marks mkP 2 k i ++ l.drop i).map pceCells).set i [.int .i64 b,.string x.text])) (by kernel_rfl) rfl (by kernel_rfl) (by kernel_rfl) rfl (by kernel_rfl) (by kernel_rfl) (by kernel_rfl) (by kernel_rfl) hlt (by simp) (fun ww h => Own.sl h) (by rw [List.length_set,mark_ln hi]; exact hlt) ?_
 intro b5 o6 hA7
 refine kOF 0 [0,1,5,22,23] ⟨[(0,.v (.slice A l.length cap)),(1,.v (.int .i64 (b + 1))),(5,.v (.int .i64 (i : Int))),(22,.v (.string (markText (b + 1)))),(23,.v (.pointer (some ⟨b5,o6 + i * 2,none⟩)))],[],[],[ownF B (.slice A l.length cap) 2 (((marks mkP 2 k i ++ l.drop i).map pceCells).set i [.int .i64 b,.string x.text]),frF w (ownF B (.slice A l.length cap) 2 (l.map pceCells)).blk]⟩ (.pointer (some ⟨b5,o6 + i * 2 + 1,none⟩)) rfl (fun _ _ _ ww hr => fld_run (sz := 1) hr rfl Try.underlying81 rfl (by kernel_rfl) rfl rfl (by first | rfl | omega)) ?_
 refine xl_stE (K := 2) (po := 1) (B := B) (rs := ((marks mkP 2 k i ++ l.drop i).map pceCells)) (row' := [.int .i64 b,.string (markText (b + 1))]) 0 [0,1,5,22,24] ⟨[(0,.v (.slice A l.length cap)),(1,.v (.int .i64 (b + 1))),(5,.v (.int .i64 (i : Int))),(22,.v (.string (markText (b + 1)))),(24,.v (.pointer (some ⟨b5,o6 + i * 2 + 1,none⟩)))],[],[],[ownF B (.slice A l.length cap) 2 (((marks mkP 2 k i ++ l.drop i).map pceCells).set i [.int .i64 b,.string x.text]),frF w (ownF B (.slice A l.length cap) 2 (l.map pceCells)).blk]⟩ i [.int .i64 b,.string x.text] 0 (by kernel_rfl) rfl (by kernel_rfl) rfl rfl rfl rfl (by kernel_rfl) (by kernel_rfl) rfl (cutW_le w B) hA7 (by rw [mark_ln hi]; exact hlt) (fun r hr => by obtain ⟨y,_,rfl⟩ := List.mem_map.1 hr; rfl) (by kernel_rfl) (by kernel_rfl) rfl rfl ?_
 refine kEF [0,1,5] ⟨[(0,.v (.slice A l.length cap)),(1,.v (.int .i64 (b + 1))),(5,.v (.int .i64 (i : Int)))],[],[],[ownF B (.slice A l.length cap) 2 (((marks mkP 2 k i ++ l.drop i).map pceCells).set i [.int .i64 b,.string (markText (b + 1))]),frF w (ownF B (.slice A l.length cap) 2 (l.map pceCells)).blk]⟩ ?_
 refine kG ?_
 refine kRS 3 [0,1,5] [(0,.v (.slice A l.length cap)),(1,.v (.int .i64 (IntKind.i64.wrap (b + 1 + 1)))),(5,.v (.int .i64 (i : Int)))] ?_
 refine xl_eqS (t' := [(0,.v (.slice A l.length cap)),(1,.v (.int .i64 (b + 2))),(5,.v (.int .i64 (i : Int)))]) (by rw [show (IntKind.i64.wrap (b + 1 + 1)) = (b + 2) from wrap_to (by omega) (by omega) (by omega)]) ?_
 refine kES [0,1,5] [(0,.v (.slice A l.length cap)),(1,.v (.int .i64 (b + 2))),(5,.v (.int .i64 (i : Int)))] ?_
 refine kG ?_
 refine kRS 3 [0,1,5] [(0,.v (.slice A l.length cap)),(1,.v (.int .i64 (b + 2))),(5,.v (.int .i64 (IntKind.i64.wrap ((i : Int) + 1))))] ?_
 refine xl_eqS (t' := [(0,.v (.slice A l.length cap)),(1,.v (.int .i64 (b + 2))),(5,.v (.int .i64 ((i : Int) + 1)))]) (by rw [show (IntKind.i64.wrap ((i : Int) + 1)) = ((i : Int) + 1) from wrap_id (by omega) (by omega)]) ?_
 refine kES [0,1,5] [(0,.v (.slice A l.length cap)),(1,.v (.int .i64 (b + 2))),(5,.v (.int .i64 ((i : Int) + 1)))] ?_
 have e : b + 2 = k + 2 * ((i + 1 : Nat) : Int) := by omega
 rw [e]
 subst hb
 exact ⟨⟨(i + 1),hlt⟩,(wk_fact0 (congrArg (fun z => ownF B (.slice A l.length cap) 2 z) (mark_next (f := pceCells) (mk := mkP) (c := 2) (k := k) hlt))).trans <| kF 0 0 [0,1,5],by show (fun (i : Nat) => l.length - i) (i + 1) < l.length - i; (dsimp only; omega)⟩
 have h1p := of_decide_eq_false h1
 have hge : i = l.length := by simp at h1; omega
 refine xw_exit ?_
 refine kQ ?_
 refine kES [4] [(4,.v (.int .i64 (k + 2 * (i : Int))))] ?_
 refine kR ?_
 subst hge
 exact ⟨[.int .i64 (k + 2 * (l.length : Int))],by kernel_rfl,fun w' hb hf => ⟨ret_int (by simp),by have := hf (ownF B (.slice A l.length cap) 2 ((marks mkP 2 k l.length ++ l.drop l.length).map pceCells)) (by simp); rw [List.drop_length,List.append_nil] at this; exact this,frF_chgd (hf (frF w (ownF B (.slice A l.length cap) 2 (l.map pceCells)).blk) (by simp)) hb rfl rfl rfl⟩⟩
theorem ymarkReceiver_c (x : Rcv) (x_heldV : Value) (k : Int) (w : World) (B : Nat) (hB : B ≤ w.heap.size) (h : Own w B x_heldV 2 (x.held.map pceCells)) (hk0 : 0 ≤ k) (hk : k ≤ 4503599627370496) (hl : x.held.length ≤ 1048576) : Calls Try.prog 11 #[.agg #[.int .i64 x.next, .string x.data, x_heldV, .int .i64 x.fin, .bool x.done], .int .i64 k] w fun e w' => e = .returned (.int .i64 (k + 2 * (x.held.length : Int))) ∧ Own w' B x_heldV 2 ((marks mkP 2 k x.held.length).map pceCells) ∧ Chgd (ownF B x_heldV 2 (x.held.map pceCells)).blk w w' := by
 obtain ⟨A,cap,hv⟩ := h.form
 rw [List.length_map] at hv; subst hv
 refine x_callsM (args := [.agg (rcvL x (.slice A x.held.length cap)).toArray,.int .i64 k]) (fn := Try.f11) [ownF B (.slice A x.held.length cap) 2 (x.held.map pceCells),frF w (ownF B (.slice A x.held.length cap) 2 (x.held.map pceCells)).blk] B Try.func11 rfl Try.ntmps11 rfl hB (by simp only [List.mem_cons,List.not_mem_nil,or_false,forall_eq_or_imp,forall_eq]; exact ⟨h,frF_start w _⟩) apart_fr ?_
 refine kQ ?_
 refine kEF [1,2] ⟨[(1,.v (.int .i64 k)),(2,.p 0 0)],[⟨28,rcvL x (.slice A x.held.length cap)⟩],[],[ownF B (.slice A x.held.length cap) 2 (x.held.map pceCells),frF w (ownF B (.slice A x.held.length cap) 2 (x.held.map pceCells)).blk]⟩ ?_
 refine kQ ?_
 refine kWS 3 [1,6,7] [(1,.v (.int .i64 k)),(6,.v (.slice A x.held.length cap)),(7,.v (.int .i64 k))] 46 [.slice A x.held.length cap,.int .i64 k] (some 8) 0 rfl rfl (fun ww b h hb => Nat.le_trans (cutW_le w B) (vblk_lo h hb)) (xcm_own marks_ne fun ww hw hf => ymarkPieceS_c (.slice A x.held.length cap) x.held k ww B (Nat.le_trans (by first | exact Nat.le_refl _ | exact Nat.le_of_eq (cutW_size hB).symm) hw) (hf (ownF B (.slice A x.held.length cap) 2 (x.held.map pceCells)) (by simp)) (by omega) (by omega) (by omega)) ?_
 intro _
 refine kES [1] [(1,.v (.int .i64 (k + 2 * (x.held.length : Int))))] ?_
 refine kQ ?_
 refine kES [4] [(4,.v (.int .i64 (k + 2 * (x.held.length : Int))))] ?_
 refine kR ?_
 exact ⟨[.int .i64 (k + 2 * (x.held.length : Int))],by kernel_rfl,fun w' hb hf => ⟨rfl,hf (ownF B (.slice A x.held.length cap) 2 ((marks mkP 2 k x.held.length).map pceCells)) (by simp),frF_chgd (hf (frF w (ownF B (.slice A x.held.length cap) 2 (x.held.map pceCells)).blk) (by simp)) hb rfl rfl rfl⟩⟩
theorem ymarkConn_c (x : Con) (x_r_heldV : Value) (k : Int) (w : World) (B : Nat) (hB : B ≤ w.heap.size) (h : Own w B x_r_heldV 2 (x.r.held.map pceCells)) (hk0 : 0 ≤ k) (hk : k ≤ 4503599627370496) (hl : x.r.held.length ≤ 1048576) : Calls Try.prog 20 #[.agg #[.int .i64 x.t.ip, .int .i64 x.t.port, .int .i64 x.t.my, .int .i64 x.state, .int .i64 x.s.una, .string x.s.data, .int .i64 x.s.sent, .bool x.s.fin, .bool x.s.finSent, .bool x.s.done, .int .i64 x.r.next, .string x.r.data, x_r_heldV, .int .i64 x.r.fin, .bool x.r.done, .int .i64 x.window, .int .i64 x.most, .int .i64 x.o.mss, .int .i64 x.o.scale, .bool x.o.sack, .bool x.o.stamp, .int .i64 x.o.val, .int .i64 x.o.echo, .int .i64 x.timer, .int .i64 x.tries], .int .i64 k] w fun e w' => e = .returned (.int .i64 (k + 2 * (x.r.held.length : Int))) ∧ Own w' B x_r_heldV 2 ((marks mkP 2 k x.r.held.length).map pceCells) ∧ Chgd (ownF B x_r_heldV 2 (x.r.held.map pceCells)).blk w w' := by
 obtain ⟨A,cap,hv⟩ := h.form
 rw [List.length_map] at hv; subst hv
 refine x_callsM (args := [.agg (conL x (.slice A x.r.held.length cap)).toArray,.int .i64 k]) (fn := Try.f20) [ownF B (.slice A x.r.held.length cap) 2 (x.r.held.map pceCells),frF w (ownF B (.slice A x.r.held.length cap) 2 (x.r.held.map pceCells)).blk] B Try.func20 rfl Try.ntmps20 rfl hB (by simp only [List.mem_cons,List.not_mem_nil,or_false,forall_eq_or_imp,forall_eq]; exact ⟨h,frF_start w _⟩) apart_fr ?_
 refine kQ ?_
 refine kEF [1,2] ⟨[(1,.v (.int .i64 k)),(2,.p 0 0)],[⟨50,conL x (.slice A x.r.held.length cap)⟩],[],[ownF B (.slice A x.r.held.length cap) 2 (x.r.held.map pceCells),frF w (ownF B (.slice A x.r.held.length cap) 2 (x.r.held.map pceCells)).blk]⟩ ?_
 refine kQ ?_
 refine kWS 3 [1,6,7] [(1,.v (.int .i64 k)),(6,.v (.agg (rcvL x.r (.slice A x.r.held.length cap)).toArray)),(7,.v (.int .i64 k))] 11 [.agg (rcvL x.r (.slice A x.r.held.length cap)).toArray,.int .i64 k] (some 8) 0 rfl rfl (fun ww b h hb => Nat.le_trans (cutW_le w B) (vblk_lo h hb)) (xcm_own marks_ne fun ww hw hf => ymarkReceiver_c x.r (.slice A x.r.held.length cap) k ww B (Nat.le_trans (by first | exact Nat.le_refl _ | exact Nat.le_of_eq (cutW_size hB).symm) hw) (hf (ownF B (.slice A x.r.held.length cap) 2 (x.r.held.map pceCells)) (by simp)) (by omega) (by omega) (by omega)) ?_
 intro _
 refine kES [1] [(1,.v (.int .i64 (k + 2 * (x.r.held.length : Int))))] ?_
 refine kQ ?_
 refine kES [4] [(4,.v (.int .i64 (k + 2 * (x.r.held.length : Int))))] ?_
 refine kR ?_
 exact ⟨[.int .i64 (k + 2 * (x.r.held.length : Int))],by kernel_rfl,fun w' hb hf => ⟨rfl,hf (ownF B (.slice A x.r.held.length cap) 2 ((marks mkP 2 k x.r.held.length).map pceCells)) (by simp),frF_chgd (hf (frF w (ownF B (.slice A x.r.held.length cap) 2 (x.r.held.map pceCells)).blk) (by simp)) hb rfl rfl rfl⟩⟩
theorem yheldPieceS_c (a : List Pce) (aV : Value) (k : Int) (w : World) (hl_aV : Sl w aV 2 (a.map pceCells)) (ha : a = marks mkP 2 k a.length) (hk0 : 0 ≤ k) (hk : k ≤ 4503599627370496) (hl : a.length ≤ 1048576) : Calls Try.prog 47 #[aV, .int .i64 k] w fun e w' => e = .returned (.int .i64 (k + 2 * (a.length : Int))) ∧ Below w.heap.size w w' := by
 obtain ⟨Aa,Ca,hva⟩ := hl_aV.form
 rw [List.length_map] at hva; subst hva
 have hna := hl_aV.len; rw [List.length_map] at hna
 have hqa := Sl.capLe hl_aV
 refine x_calls (args := [.slice Aa a.length Ca,.int .i64 k]) (fn := Try.f47) [slF (.slice Aa a.length Ca) 2 (a.map pceCells)] Try.func47 rfl Try.ntmps47 rfl (by simp only [List.mem_cons,List.not_mem_nil,or_false,forall_eq_or_imp,forall_eq]; exact ⟨rfl,hl_aV⟩) ?_
 refine kQ ?_
 refine kEF [0,1] ⟨[(0,.v (.slice Aa a.length Ca)),(1,.v (.int .i64 k))],[],[],[slF (.slice Aa a.length Ca) 2 (a.map pceCells)]⟩ ?_
 refine kS ?_
 refine kQ ?_
 refine kES [0,1,5] [(0,.v (.slice Aa a.length Ca)),(1,.v (.int .i64 k)),(5,.v (.int .i64 0))] ?_
 refine xw_block ?_
 have e0 : k + 2 * ((0 : Nat) : Int) = k := by omega
 refine xw_eq (st' := ⟨[(0,.v (.slice Aa a.length Ca)),(1,.v (.int .i64 (k + 2 * ((0 : Nat) : Int)))),(5,.v (.int .i64 0))],[],[],[slF (.slice Aa a.length Ca) 2 (a.map pceCells)]⟩) (by rw [e0]) ?_
 refine xw_loopW (α := {x : Nat // (fun (i : Nat) => i ≤ a.length) x}) (fun x => (fun (i : Nat) => (⟨[(0,.v (.slice Aa a.length Ca)),(1,.v (.int .i64 (k + 2 * (i : Int)))),(5,.v (.int .i64 (i : Int)))],[],[],[slF (.slice Aa a.length Ca) 2 (a.map pceCells)]⟩ : St)) x.1) (fun x => (fun (i : Nat) => a.length - i) x.1) ⟨(0),Nat.zero_le _⟩ (kF 0 0 [0,1,5]) ?_
 rintro ⟨i,hi⟩
 try dsimp only
 try dsimp only at hi
 refine kS ?_
 refine kQ ?_
 refine kES [0,1,5,9] [(0,.v (.slice Aa a.length Ca)),(1,.v (.int .i64 (k + 2 * (i : Int)))),(5,.v (.int .i64 (i : Int))),(9,.v (.bool (decide ((i : Int) < ((a.length : Nat) : Int)))))] ?_
 refine kC (decide ((i : Int) < ((a.length : Nat) : Int))) (fun h1 => ?_) (fun h1 => ?_)
 have h1p := of_decide_eq_true h1
 have hlt : i < a.length := by simpa using h1
 obtain ⟨x,hx⟩ : ∃ x,a[i]? = some x := ⟨_,List.getElem?_eq_getElem hlt⟩
 have hxe := marks_get (mk := mkP) (c := 2) (k := k) (n := a.length) (show _ = some x by rw [← ha]; exact hx)
 obtain ⟨b,hb⟩ : ∃ b,b = k + 2 * (i : Int) := ⟨_,rfl⟩
 rw [← hb] at hxe ⊢
 refine kK ?_
 refine kS ?_
 refine xw_block ?_
 refine kS ?_
 refine kQ ?_
 refine xl_index (kd := .i64) (T := 26) (e := 81) (K := 2) 2 [0,1,5,12,13] ⟨[(0,.v (.slice Aa a.length Ca)),(1,.v (.int .i64 b)),(5,.v (.int .i64 (i : Int))),(12,.v (.slice Aa a.length Ca)),(13,.v (.int .i64 (i : Int)))],[],[],[slF (.slice Aa a.length Ca) 2 (a.map pceCells)]⟩ i [.int .i64 b,.string (markText (b + 1))] (slF (.slice Aa a.length Ca) 2 (a.map pceCells)) (by kernel_rfl) rfl (by kernel_rfl) rfl rfl (by kernel_rfl) (by kernel_rfl) (by kernel_rfl) (by kernel_rfl) hlt (by simp) (fun w h => h) (fun b h => h) (by simp only [List.getElem?_map,hx,hxe]; rfl) ?_
 refine kES [0,1,5,18] [(0,.v (.slice Aa a.length Ca)),(1,.v (.int .i64 b)),(5,.v (.int .i64 (i : Int))),(18,.v (.bool (b != b)))] ?_
 refine kC (b != b) (fun h2 => ?_) (fun h2 => ?_)
 simp at h2
 have h2p := neF h2
 refine kK ?_
 refine kQ ?_
 refine kRS 3 [0,1,5] [(0,.v (.slice Aa a.length Ca)),(1,.v (.int .i64 (IntKind.i64.wrap (b + 1)))),(5,.v (.int .i64 (i : Int)))] ?_
 refine xl_eqS (t' := [(0,.v (.slice Aa a.length Ca)),(1,.v (.int .i64 (b + 1))),(5,.v (.int .i64 (i : Int)))]) (by rw [show (IntKind.i64.wrap (b + 1)) = (b + 1) from wrap_id (by omega) (by omega)]) ?_
 refine kES [0,1,5] [(0,.v (.slice Aa a.length Ca)),(1,.v (.int .i64 (b + 1))),(5,.v (.int .i64 (i : Int)))] ?_
 refine kS ?_
 refine kS ?_
 refine xws_start ?_
 refine xws_row (K := 2) (j := i) [.int .i64 b,.string (markText (b + 1))] (slF (.slice Aa a.length Ca) 2 (a.map pceCells)) (fun _ _ h => h) (by simp) (fun w h => h) (fun b h => h) (by simp only [List.getElem?_map,hx,hxe]; rfl) (fun bq3 offq3 hAq3 => ?_)
 refine xws_regionE [] (by kernel_rfl) (fun ρ σ hq4 => ?_)
 refine kTS [0,1,5] [26,22,21,0,1,5] 5 [(26,.v (.int .i64 (b + 1))),(22,.v (.int .i64 (i : Int))),(21,.v (.slice Aa a.length Ca)),(0,.v (.slice Aa a.length Ca)),(1,.v (.int .i64 (b + 1))),(5,.v (.int .i64 (i : Int)))] ?_
 refine xe_takeI (kd := .i64) (T := 26) (e := 81) (K := 2) (j := i) (A := Aa) (len := a.length) (cap := Ca) 2 1 _ rfl (by kernel_rfl) (by kernel_rfl) (by kernel_rfl) (fun _ _ h => h) (by kernel_rfl) rfl rfl (by kernel_rfl) (by kernel_rfl) (by kernel_rfl) (by kernel_rfl) hlt hAq3 hq4.2 (by kernel_rfl) rfl ?_
 refine kTS [3,4] [25,26,0,1,5] 2 [(25,.v (.string (markText (b + 1)))),(26,.v (.int .i64 (b + 1))),(0,.v (.slice Aa a.length Ca)),(1,.v (.int .i64 (b + 1))),(5,.v (.int .i64 (i : Int)))] ?_
 refine kA [6] ?_
 refine kSC 6 84 [.int .i64 (b + 1)] (some 27) rfl (xc_b fun ww hf => ymarkText_c (b + 1) ww  (by omega)) ?_
 intro _
 refine kTS [7] [28,0,1,5] 0 [(28,.v (.bool (!((markText (b + 1)).toList == (markText (b + 1)).toList)))),(0,.v (.slice Aa a.length Ca)),(1,.v (.int .i64 (b + 1))),(5,.v (.int .i64 (i : Int)))] ?_
 refine kZ ?_
 refine kC (!((markText (b + 1)).toList == (markText (b + 1)).toList)) (fun h5 => ?_) (fun h5 => ?_)
 have h5n := not_t h5
 simp at h5n
 have h5n := not_f h5
 have h5np := h5n; simp only [beq_iff_eq,bne_iff_ne,beq_eq_false_iff_ne,bne_eq_false_iff_eq,ne_eq,toList_lit0] at h5np
 refine kK ?_
 refine kG ?_
 refine kRS 3 [0,1,5] [(0,.v (.slice Aa a.length Ca)),(1,.v (.int .i64 (IntKind.i64.wrap (b + 1 + 1)))),(5,.v (.int .i64 (i : Int)))] ?_
 refine xl_eqS (t' := [(0,.v (.slice Aa a.length Ca)),(1,.v (.int .i64 (b + 2))),(5,.v (.int .i64 (i : Int)))]) (by rw [show (IntKind.i64.wrap (b + 1 + 1)) = (b + 2) from wrap_to (by omega) (by omega) (by omega)]) ?_
 refine kES [0,1,5] [(0,.v (.slice Aa a.length Ca)),(1,.v (.int .i64 (b + 2))),(5,.v (.int .i64 (i : Int)))] ?_
 refine kG ?_
 refine kRS 3 [0,1,5] [(0,.v (.slice Aa a.length Ca)),(1,.v (.int .i64 (b + 2))),(5,.v (.int .i64 (IntKind.i64.wrap ((i : Int) + 1))))] ?_
 refine xl_eqS (t' := [(0,.v (.slice Aa a.length Ca)),(1,.v (.int .i64 (b + 2))),(5,.v (.int .i64 ((i : Int) + 1)))]) (by rw [show (IntKind.i64.wrap ((i : Int) + 1)) = ((i : Int) + 1) from wrap_id (by omega) (by omega)]) ?_
 refine kES [0,1,5] [(0,.v (.slice Aa a.length Ca)),(1,.v (.int .i64 (b + 2))),(5,.v (.int .i64 ((i : Int) + 1)))] ?_
 have e : b + 2 = k + 2 * ((i + 1 : Nat) : Int) := by omega
 rw [e]
 exact ⟨⟨(i + 1),hlt⟩,kF 0 0 [0,1,5],by show (fun (i : Nat) => a.length - i) (i + 1) < a.length - i; (dsimp only; omega)⟩
 have h1p := of_decide_eq_false h1
 have hge : i = a.length := by simp at h1; omega
 refine xw_exit ?_
 refine kQ ?_
 refine kES [4] [(4,.v (.int .i64 (k + 2 * (i : Int))))] ?_
 refine kR ?_
 have hmod : k + 2 * (a.length : Int) = (k + 2 * (i : Int)) := by first | rfl | (rw [hge])
 exact ⟨[.int .i64 (k + 2 * (i : Int))],by kernel_rfl,fun w' hb hf => by rw [hmod]; exact ⟨rfl,hb⟩⟩
theorem yheldPieceS_m (n : Nat) (v : Value) (k : Int) (w : World) (hs : Sl w v 2 ((marks mkP 2 k n).map pceCells)) (hk0 : 0 ≤ k) (hk : k ≤ 4503599627370496) (hl : n ≤ 1048576) : Calls Try.prog 47 #[v, .int .i64 k] w fun e w' => e = .returned (.int .i64 (k + 2 * (n : Int))) ∧ Below w.heap.size w w' := by
 have := yheldPieceS_c (marks mkP 2 k n) v k w hs (by rw [marks_len]) hk0 hk (by rw [marks_len]; exact hl)
 rw [marks_len] at this; exact this
theorem yheldReceiver_m (n : Nat) (x_next : Int) (x_data : ByteArray) (x_fin : Int) (x_done : Bool) (v : Value) (k : Int) (w : World) (hs : Sl w v 2 ((marks mkP 2 k n).map pceCells)) (hk0 : 0 ≤ k) (hk : k ≤ 4503599627370496) (hl : n ≤ 1048576) : Calls Try.prog 12 #[.agg #[.int .i64 x_next, .string x_data, v, .int .i64 x_fin, .bool x_done], .int .i64 k] w fun e w' => e = .returned (.int .i64 (k + 2 * (n : Int))) ∧ Below w.heap.size w w' := by
 obtain ⟨A,cap,hv⟩ := hs.form
 rw [List.length_map,marks_len] at hv; subst hv
 refine x_calls (args := [.agg #[.int .i64 x_next,.string x_data,.slice A n cap,.int .i64 x_fin,.bool x_done],.int .i64 k]) (fn := Try.f12) [slF (.slice A n cap) 2 ((marks mkP 2 k n).map pceCells)] Try.func12 rfl Try.ntmps12 rfl (by simp only [List.mem_cons,List.not_mem_nil,or_false,forall_eq_or_imp,forall_eq]; exact ⟨rfl,hs⟩) ?_
 refine kQ ?_
 refine kEF [1,2] ⟨[(1,.v (.int .i64 k)),(2,.p 0 0)],[⟨28,[.int .i64 x_next,.string x_data,.slice A n cap,.int .i64 x_fin,.bool x_done]⟩],[],[slF (.slice A n cap) 2 ((marks mkP 2 k n).map pceCells)]⟩ ?_
 refine kQ ?_
 refine kCS 3 [1,6,7] [(1,.v (.int .i64 k)),(6,.v (.slice A n cap)),(7,.v (.int .i64 k))] 47 [.slice A n cap,.int .i64 k] (some 8) rfl (xc_b fun ww hf => yheldPieceS_m n  (.slice A n cap) k ww (hf _ m0) (by omega) (by omega) (by omega)) ?_
 intro _
 refine kES [1] [(1,.v (.int .i64 (k + 2 * (n : Int))))] ?_
 refine kS ?_
 refine kQ ?_
 refine kES [1,10] [(1,.v (.int .i64 (k + 2 * (n : Int)))),(10,.v (.bool (decide ((k + 2 * (n : Int)) < 0))))] ?_
 refine kC (decide ((k + 2 * (n : Int)) < 0)) (fun h1 => ?_) (fun h1 => ?_)
 have h1p := of_decide_eq_true h1
 exfalso; have := of_decide_eq_true h1; omega
 have h1p := of_decide_eq_false h1
 refine kK ?_
 refine kQ ?_
 refine kES [4] [(4,.v (.int .i64 (k + 2 * (n : Int))))] ?_
 refine kR ?_
 exact ⟨[.int .i64 (k + 2 * (n : Int))],by kernel_rfl,fun w' hb hf => ⟨rfl,hb⟩⟩
theorem yheldConn_m (n : Nat) (x_t_ip : Int) (x_t_port : Int) (x_t_my : Int) (x_state : Int) (x_s_una : Int) (x_s_data : ByteArray) (x_s_sent : Int) (x_s_fin : Bool) (x_s_finSent : Bool) (x_s_done : Bool) (x_r_next : Int) (x_r_data : ByteArray) (x_r_fin : Int) (x_r_done : Bool) (x_window : Int) (x_most : Int) (x_o_mss : Int) (x_o_scale : Int) (x_o_sack : Bool) (x_o_stamp : Bool) (x_o_val : Int) (x_o_echo : Int) (x_timer : Int) (x_tries : Int) (v : Value) (k : Int) (w : World) (hs : Sl w v 2 ((marks mkP 2 k n).map pceCells)) (hk0 : 0 ≤ k) (hk : k ≤ 4503599627370496) (hl : n ≤ 1048576) : Calls Try.prog 21 #[.agg #[.int .i64 x_t_ip, .int .i64 x_t_port, .int .i64 x_t_my, .int .i64 x_state, .int .i64 x_s_una, .string x_s_data, .int .i64 x_s_sent, .bool x_s_fin, .bool x_s_finSent, .bool x_s_done, .int .i64 x_r_next, .string x_r_data, v, .int .i64 x_r_fin, .bool x_r_done, .int .i64 x_window, .int .i64 x_most, .int .i64 x_o_mss, .int .i64 x_o_scale, .bool x_o_sack, .bool x_o_stamp, .int .i64 x_o_val, .int .i64 x_o_echo, .int .i64 x_timer, .int .i64 x_tries], .int .i64 k] w fun e w' => e = .returned (.int .i64 (k + 2 * (n : Int))) ∧ Below w.heap.size w w' := by
 obtain ⟨A,cap,hv⟩ := hs.form
 rw [List.length_map,marks_len] at hv; subst hv
 refine x_calls (args := [.agg #[.int .i64 x_t_ip,.int .i64 x_t_port,.int .i64 x_t_my,.int .i64 x_state,.int .i64 x_s_una,.string x_s_data,.int .i64 x_s_sent,.bool x_s_fin,.bool x_s_finSent,.bool x_s_done,.int .i64 x_r_next,.string x_r_data,.slice A n cap,.int .i64 x_r_fin,.bool x_r_done,.int .i64 x_window,.int .i64 x_most,.int .i64 x_o_mss,.int .i64 x_o_scale,.bool x_o_sack,.bool x_o_stamp,.int .i64 x_o_val,.int .i64 x_o_echo,.int .i64 x_timer,.int .i64 x_tries],.int .i64 k]) (fn := Try.f21) [slF (.slice A n cap) 2 ((marks mkP 2 k n).map pceCells)] Try.func21 rfl Try.ntmps21 rfl (by simp only [List.mem_cons,List.not_mem_nil,or_false,forall_eq_or_imp,forall_eq]; exact ⟨rfl,hs⟩) ?_
 refine kQ ?_
 refine kEF [1,2] ⟨[(1,.v (.int .i64 k)),(2,.p 0 0)],[⟨50,[.int .i64 x_t_ip,.int .i64 x_t_port,.int .i64 x_t_my,.int .i64 x_state,.int .i64 x_s_una,.string x_s_data,.int .i64 x_s_sent,.bool x_s_fin,.bool x_s_finSent,.bool x_s_done,.int .i64 x_r_next,.string x_r_data,.slice A n cap,.int .i64 x_r_fin,.bool x_r_done,.int .i64 x_window,.int .i64 x_most,.int .i64 x_o_mss,.int .i64 x_o_scale,.bool x_o_sack,.bool x_o_stamp,.int .i64 x_o_val,.int .i64 x_o_echo,.int .i64 x_timer,.int .i64 x_tries]⟩],[],[slF (.slice A n cap) 2 ((marks mkP 2 k n).map pceCells)]⟩ ?_
 refine kQ ?_
 refine kCS 3 [1,6,7] [(1,.v (.int .i64 k)),(6,.v (.agg #[.int .i64 x_r_next,.string x_r_data,.slice A n cap,.int .i64 x_r_fin,.bool x_r_done])),(7,.v (.int .i64 k))] 12 [.agg #[.int .i64 x_r_next,.string x_r_data,.slice A n cap,.int .i64 x_r_fin,.bool x_r_done],.int .i64 k] (some 8) rfl (xc_b fun ww hf => yheldReceiver_m n x_r_next x_r_data x_r_fin x_r_done (.slice A n cap) k ww (hf _ m0) (by omega) (by omega) (by omega)) ?_
 intro _
 refine kES [1] [(1,.v (.int .i64 (k + 2 * (n : Int))))] ?_
 refine kS ?_
 refine kQ ?_
 refine kES [1,10] [(1,.v (.int .i64 (k + 2 * (n : Int)))),(10,.v (.bool (decide ((k + 2 * (n : Int)) < 0))))] ?_
 refine kC (decide ((k + 2 * (n : Int)) < 0)) (fun h1 => ?_) (fun h1 => ?_)
 have h1p := of_decide_eq_true h1
 exfalso; have := of_decide_eq_true h1; omega
 have h1p := of_decide_eq_false h1
 refine kK ?_
 refine kQ ?_
 refine kES [4] [(4,.v (.int .i64 (k + 2 * (n : Int))))] ?_
 refine kR ?_
 exact ⟨[.int .i64 (k + 2 * (n : Int))],by kernel_rfl,fun w' hb hf => ⟨rfl,hb⟩⟩
theorem yiscaled_c (window : Int) (o : Opt) (w : World) (h0 : 0 ≤ window ∧ window ≤ 65535) (h1 : o.scale ≤ 14) : Calls Try.prog 64 #[.int .i64 window, .agg (optL o).toArray] w fun e w' => e = .returned (.int .i64 (farW window o)) ∧ Below w.heap.size w w' := by
 refine x_calls (args := [.int .i64 window,.agg (optL o).toArray]) (fn := Try.f64) [] Try.func64 rfl Try.ntmps64 rfl (by simp) ?_
 refine kQ ?_
 refine kEF [0,3] ⟨[(0,.v (.int .i64 window)),(3,.p 0 0)],[⟨48,optL o⟩],[],[]⟩ ?_
 refine kQ ?_
 refine kOS 3 [5,7] [(5,.v (.int .i64 window)),(7,.v (.int .i64 o.scale))] (.int .i64 (max o.scale 0)) rfl (fun _ _ _ ww hr => act_max2 (k := .i64) (k' := .i64) (p := o.scale) (q := 0) hr.1 rfl rfl rfl (by kernel_rfl) (by kernel_rfl) ww) ?_
 refine kOS 0 [5,8] [(5,.v (.int .i64 window)),(8,.v (.int .i64 (max o.scale 0)))] (.int .i64 (IntKind.i64.wrap (window * 2 ^ (max o.scale 0).toNat))) rfl (fun _ _ _ ww hr => act_bin hr.1 rfl (by kernel_rfl) (by kernel_rfl) (shl_run (k' := .i64) (by have e : ((IntKind.i64.bits : Nat) : Int) = 64 := rfl; (try rw [u64_id (by omega) (by omega)]); omega) (by have e : ((IntKind.i64.bits : Nat) : Int) = 64 := rfl; (try rw [u64_id (by omega) (by omega)]); omega) ww)) ?_
 refine kOS 0 [9] [(9,.v (.int .i64 (IntKind.i64.wrap (window * 2 ^ (max o.scale 0).toNat))))] (.int .i64 (min (IntKind.i64.wrap (window * 2 ^ (max o.scale 0).toNat)) 1073725440)) rfl (fun _ _ _ ww hr => act_min2 (k := .i64) (k' := .i64) (p := IntKind.i64.wrap (window * 2 ^ (max o.scale 0).toNat)) (q := 1073725440) hr.1 rfl rfl rfl (by kernel_rfl) (by kernel_rfl) ww) ?_
 refine kRS 1 [4] [(4,.v (.int .i64 (min (IntKind.i64.wrap (window * 2 ^ (max o.scale 0).toNat)) 1073725440)))] ?_
 refine xl_eqS (t' := [(4,.v (.int .i64 (min (window * 2 ^ (max 0 o.scale).toNat) 1073725440)))]) (by rw [show (max o.scale 0) = (max 0 o.scale) from (by omega),show (IntKind.i64.wrap (window * 2 ^ (max 0 o.scale).toNat)) = (window * 2 ^ (max 0 o.scale).toNat) from far_wrap (by omega) (by omega) (by omega) (by omega)]) ?_
 refine kES [4] [(4,.v (.int .i64 (min (window * 2 ^ (max 0 o.scale).toNat) 1073725440)))] ?_
 refine kR ?_
 have hmod : farW window o = (min (window * 2 ^ (max 0 o.scale).toNat) 1073725440) := by (unfold farW; have := far_le (a := window) (b := max 0 o.scale) (by omega) (by omega) (by omega) (by omega); omega)
 exact ⟨[.int .i64 (min (window * 2 ^ (max 0 o.scale).toNat) 1073725440)],by kernel_rfl,fun w' hb hf => by rw [hmod]; exact ⟨rfl,hb⟩⟩
theorem ysHeard_c (c : Con) (c_r_heldV : Value) (g : Seg) (w : World) (hl_c_r_heldV : Sl w c_r_heldV 2 (c.r.held.map pceCells)) (hkn : c.r.held.length ≤ 1048576)(hgz : g.body.size ≤ 1048576) (hm : ∀ p ∈ c.r.held, p.text.size ≤ 1048576) (hsz : c.r.data.size ≤ 4611686018427387904) (B : Nat) (hB : B ≤ w.heap.size) : Calls Try.prog 15 #[.agg (conL c c_r_heldV).toArray, .agg (segL g).toArray] w fun e w' => XRs w w' e (α := Option Addr × Nat) (fun y => .agg (conL (heard c g) (.slice y.1 ((heard c g).r.held.length) y.2)).toArray) (fun y => [ownF B (.slice y.1 ((heard c g).r.held.length) y.2) 2 ((heard c g).r.held.map pceCells)]) := by
 obtain ⟨Acrh,Ccrh,hvcrh⟩ := hl_c_r_heldV.form
 rw [List.length_map] at hvcrh; subst hvcrh
 have hncrh := hl_c_r_heldV.len; rw [List.length_map] at hncrh
 have hqcrh := Sl.capLe hl_c_r_heldV
 refine x_callsA (args := [.agg (conL c (.slice Acrh c.r.held.length Ccrh)).toArray,.agg (segL g).toArray]) (fn := Try.f15) [slF (.slice Acrh c.r.held.length Ccrh) 2 (c.r.held.map pceCells)] Try.func15 rfl Try.ntmps15 rfl (by simp only [List.mem_cons,List.not_mem_nil,or_false,forall_eq_or_imp,forall_eq]; exact ⟨rfl,hl_c_r_heldV⟩) ?_
 refine kQ ?_
 refine kEF [2,3,4] ⟨[(2,.p 0 0),(3,.p 1 0),(4,.p 2 0)],[⟨50,conL c (.slice Acrh c.r.held.length Ccrh)⟩,⟨54,segL g⟩,⟨50,conZ⟩],[],[slF (.slice Acrh c.r.held.length Ccrh) 2 (c.r.held.map pceCells)]⟩ ?_
 refine kQ ?_
 refine kCD 1 [2,3,4,9] [(9,.v (.agg (conL c (.slice Acrh c.r.held.length Ccrh)).toArray))] 49 [.agg (conL c (.slice Acrh c.r.held.length Ccrh)).toArray] (some 10) rfl (xc_r fun ww hw hf => yl19Copy_c c (.slice Acrh c.r.held.length Ccrh) ww (hf _ m0) (by assumption) w.heap.size hw) ?_
 rintro ⟨v1a,v1c⟩
 refine kEA [2,3,4,5] [(5,.p 3 0)] [⟨50,conL c (.slice v1a c.r.held.length v1c)⟩] ?_
 refine kS ?_
 refine kQ ?_
 refine kCD 2 [2,3,4,5,11,12] [(11,.v (.agg (conL c (.slice Acrh c.r.held.length Ccrh)).toArray)),(12,.v (.agg (segL g).toArray))] 50 [.agg (conL c (.slice Acrh c.r.held.length Ccrh)).toArray,.agg (segL g).toArray] (some 13) rfl (xc_b fun ww hf => ysVerdict_c c (.slice Acrh c.r.held.length Ccrh) g ww (hf _ m1) (by omega) (by assumption) (by omega)) ?_
 intro _
 refine kED [2,3,4,5,14] [(14,.v (.bool ((verdict c g) != 5)))] ?_
 refine kC ((verdict c g) != 5) (fun h2 => ?_) (fun h2 => ?_)
 have h2p := neT h2
 have hv5 : ¬ verdict c g = 5 := by simpa using h2
 refine kQ ?_
 refine kEU [4] [(4,.p 2 0)] 2 ⟨50,conL c (.slice v1a c.r.held.length v1c)⟩ ?_
 refine kR ?_
 have hmod : heard c g = c := by first | (unfold heard; rw [if_pos hv5,← hm5]; unfold heardR; rw [if_pos (by assumption)]; done) | (unfold heard; rw [if_pos hv5,← hm5]; unfold heardR; rw [if_neg (by simp [*]; done),← hmr]; done) | (unfold heard; rw [if_neg hv5]; done)
 exact ⟨[.agg (conL c (.slice v1a c.r.held.length v1c)).toArray],by kernel_rfl,fun w' hb hf ha => by rw [hmod]; exact xo1 ((v1a,v1c)) rfl rfl (pO (hf _ m0) hB) hb⟩
 have h2p := neF h2
 have hv5 : verdict c g = 5 := by simpa using h2
 obtain ⟨hc1,hc2,hc3,-⟩ := verdict_fine hv5
 have hgw := segmentOk_w hc3
 have hsc := optionsOk_bd (conOk_r hc1).2.1
 have hfw := farW_bd hgw (conOk_r hc1).2.1
 refine kK ?_
 refine kQ ?_
 refine kCD 4 [2,3,4,5,18,20] [(18,.v (.agg (sndL c.s).toArray)),(20,.v (.int .i64 g.ack))] 51 [.agg (sndL c.s).toArray,.int .i64 g.ack] (some 21) rfl (xc_b fun ww hf => ysAcked_c c.s g.ack ww  ) ?_
 intro _
 refine kEA [2,3,4,5,6,7] [(6,.p 4 0),(7,.v (.bool ((acked c.s g.ack).2)))] [⟨47,sndL (acked c.s g.ack).1⟩] ?_
 refine kS ?_
 refine xw_joinF (α := {zz : Con // (fun (m : Con) => m = heardMid c g) zz}) (fun zz => (fun (m : Con) => (⟨[(2,.p 0 0),(3,.p 1 0),(4,.p 2 0),(5,.p 3 0)],[⟨50,conL c (.slice Acrh c.r.held.length Ccrh)⟩,⟨54,segL g⟩,⟨50,conZ⟩,⟨50,conL m (.slice v1a m.r.held.length v1c)⟩,⟨47,sndL (acked c.s g.ack).1⟩],[],[ownF w.heap.size (.slice v1a m.r.held.length v1c) 2 (m.r.held.map pceCells),slF (.slice Acrh c.r.held.length Ccrh) 2 (c.r.held.map pceCells)]⟩ : St)) zz.1) ?_ ?_
 refine kQ ?_
 refine kED [2,3,4,5,6,24] [(24,.v (.bool ((acked c.s g.ack).2)))] ?_
 refine kC ((acked c.s g.ack).2) (fun h3 => ?_) (fun h3 => ?_)
 refine kQ ?_
 refine kEU [2,3,4,5,6] [] 3 ⟨50,conL { c with s := (acked c.s g.ack).1 } (.slice v1a c.r.held.length v1c)⟩ ?_
 refine kS ?_
 refine xe_region0 [true,true,true,false,true] (by kernel_rfl) (fun ρ σ => ?_)
 refine kTS [0,1,2,3,4] [31,28,2,3,4,5,6] 6 [(31,.v (.int .i64 c.o.scale)),(28,.v (.int .i64 g.window)),(2,.p 0 0),(3,.p 1 0),(4,.p 2 0),(5,.p 3 0),(6,.p 4 0)] ?_
 refine kA [5] ?_
 refine kSC 5 53 [.int .i64 0,.int .i64 c.o.scale] (some 32) rfl (xc_s fun ww hf => l1Max_c 0 c.o.scale ww ) ?_
 intro _
 refine kTS [6] [33,28,2,3,4,5,6] 4 [(33,.v (.int .u64 (IntKind.u64.wrap (max 0 c.o.scale)))),(28,.v (.int .i64 g.window)),(2,.p 0 0),(3,.p 1 0),(4,.p 2 0),(5,.p 3 0),(6,.p 4 0)] ?_
 refine xe_eqS (t := [(33,.v (.int .u64 (IntKind.u64.wrap (max 0 c.o.scale)))),(28,.v (.int .i64 g.window)),(2,.p 0 0),(3,.p 1 0),(4,.p 2 0),(5,.p 3 0),(6,.p 4 0)]) (t' := [(33,.v (.int .u64 (max 0 c.o.scale))),(28,.v (.int .i64 g.window)),(2,.p 0 0),(3,.p 1 0),(4,.p 2 0),(5,.p 3 0),(6,.p 4 0)]) (by rw [show (IntKind.u64.wrap (max 0 c.o.scale)) = (max 0 c.o.scale) from u64_id (by omega) (by omega)]) ?_
 refine kX 7 (.int .i64 (IntKind.i64.wrap (g.window * 2 ^ (max 0 c.o.scale).toNat))) rfl (fun _ _ ww hA => act_bin hA rfl (by kernel_rfl) (by kernel_rfl) (shl_run (k' := .u64) (by have e : ((IntKind.i64.bits : Nat) : Int) = 64 := rfl; (try rw [u64_id (by omega) (by omega)]); omega) (by have e : ((IntKind.i64.bits : Nat) : Int) = 64 := rfl; (try rw [u64_id (by omega) (by omega)]); omega) ww)) ?_
 refine xe_eqS (t := [(34,.v (.int .i64 (IntKind.i64.wrap (g.window * 2 ^ (max 0 c.o.scale).toNat)))),(33,.v (.int .u64 (max 0 c.o.scale))),(28,.v (.int .i64 g.window)),(2,.p 0 0),(3,.p 1 0),(4,.p 2 0),(5,.p 3 0),(6,.p 4 0)]) (t' := [(34,.v (.int .i64 (farW g.window c.o))),(33,.v (.int .u64 (max 0 c.o.scale))),(28,.v (.int .i64 g.window)),(2,.p 0 0),(3,.p 1 0),(4,.p 2 0),(5,.p 3 0),(6,.p 4 0)]) (by rw [show (IntKind.i64.wrap (g.window * 2 ^ (max 0 c.o.scale).toNat)) = (farW g.window c.o) from (by unfold farW; exact far_wrap (by omega) (by omega) (by omega) (by omega))]) ?_
 refine kA [8] ?_
 refine kSC 8 52 [.int .i64 1073725440,.int .i64 (farW g.window c.o)] (some 35) rfl (xc_s fun ww hf => l1Min_c 1073725440 (farW g.window c.o) ww ) ?_
 intro _
 refine xe_eqS (t := [(35,.v (.int .i64 (min 1073725440 (farW g.window c.o)))),(34,.v (.int .i64 (farW g.window c.o))),(33,.v (.int .u64 (max 0 c.o.scale))),(28,.v (.int .i64 g.window)),(2,.p 0 0),(3,.p 1 0),(4,.p 2 0),(5,.p 3 0),(6,.p 4 0)]) (t' := [(35,.v (.int .i64 (farW g.window c.o))),(34,.v (.int .i64 (farW g.window c.o))),(33,.v (.int .u64 (max 0 c.o.scale))),(28,.v (.int .i64 g.window)),(2,.p 0 0),(3,.p 1 0),(4,.p 2 0),(5,.p 3 0),(6,.p 4 0)]) (by rw [show (min 1073725440 (farW g.window c.o)) = (farW g.window c.o) from (by omega)]) ?_
 refine kTS [9] [36,35,2,3,4,5,6] 1 [(36,.p 3 15),(35,.v (.int .i64 (farW g.window c.o))),(2,.p 0 0),(3,.p 1 0),(4,.p 2 0),(5,.p 3 0),(6,.p 4 0)] ?_
 refine kA [10] ?_
 refine kSS 10 3 15 [.int .i64 (farW g.window c.o)] rfl ?_
 refine kZ ?_
 refine kQ ?_
 refine kCD 4 [2,3,4,5,6,38,40] [(38,.v (.int .i64 c.most)),(40,.v (.int .i64 (farW g.window c.o)))] 53 [.int .i64 c.most,.int .i64 (farW g.window c.o)] (some 41) rfl (xc_s fun ww hf => l1Max_c c.most (farW g.window c.o) ww ) ?_
 intro _
 refine kEU [2,3,4,5,6] [] 3 ⟨50,conL { c with s := (acked c.s g.ack).1,window := farW g.window c.o,most := max c.most (farW g.window c.o) } (.slice v1a c.r.held.length v1c)⟩ ?_
 refine kQ ?_
 refine kCD 1 [2,3,4,5,6,43] [(43,.v (.agg (sndL (acked c.s g.ack).1).toArray))] 54 [.agg (sndL (acked c.s g.ack).1).toArray] (some 44) rfl (xc_b fun ww hf => sFlown_c ((acked c.s g.ack).1.una) ((acked c.s g.ack).1.data) ((acked c.s g.ack).1.sent) ((acked c.s g.ack).1.fin) ((acked c.s g.ack).1.finSent) ((acked c.s g.ack).1.done) ww ) ?_
 intro _
 refine kED [2,3,4,5,6,8] [(8,.v (.int .i64 (flown ((acked c.s g.ack).1))))] ?_
 refine kQ ?_
 refine kRD 7 [2,3,4,5,8,51] [(51,.v (.bool (((acked c.s g.ack).1.una) != c.s.una)))] ?_
 refine kP 51 (((acked c.s g.ack).1.una) != c.s.una) (fun h4 => ?_) (fun h4 => ?_)
 have h4p := neT h4
 refine kED [2,3,4,5,8,59] [(59,.v (.bool (c.state != 7)))] ?_
 refine kC (c.state != 7) (fun h5 => ?_) (fun h5 => ?_)
 have h5p := neT h5
 refine kQ ?_
 refine kEU [2,3,4,5,8] [] 3 ⟨50,conL { c with s := (acked c.s g.ack).1,window := farW g.window c.o,most := max c.most (farW g.window c.o),tries := 0 } (.slice v1a c.r.held.length v1c)⟩ ?_
 refine kQ ?_
 refine kEU [2,3,4,5,8] [] 3 ⟨50,[.int .i64 c.t.ip,.int .i64 c.t.port,.int .i64 c.t.my,.int .i64 c.state,.int .i64 ((acked c.s g.ack).1.una),.string ((acked c.s g.ack).1.data),.int .i64 ((acked c.s g.ack).1.sent),.bool ((acked c.s g.ack).1.fin),.bool ((acked c.s g.ack).1.finSent),.bool ((acked c.s g.ack).1.done),.int .i64 c.r.next,.string c.r.data,.slice v1a c.r.held.length v1c,.int .i64 c.r.fin,.bool c.r.done,.int .i64 (farW g.window c.o),.int .i64 (max c.most (farW g.window c.o)),.int .i64 c.o.mss,.int .i64 c.o.scale,.bool c.o.sack,.bool c.o.stamp,.int .i64 c.o.val,.int .i64 c.o.echo,.int .i64 0,.int .i64 0]⟩ ?_
 refine kQ ?_
 refine kED [2,3,4,5,63] [(63,.v (.bool (decide ((flown ((acked c.s g.ack).1)) > 0))))] ?_
 refine kC (decide ((flown ((acked c.s g.ack).1)) > 0)) (fun h6 => ?_) (fun h6 => ?_)
 have h6p := of_decide_eq_true h6
 refine kG ?_
 refine kEU [2,3,4,5] [] 3 ⟨50,[.int .i64 c.t.ip,.int .i64 c.t.port,.int .i64 c.t.my,.int .i64 c.state,.int .i64 ((acked c.s g.ack).1.una),.string ((acked c.s g.ack).1.data),.int .i64 ((acked c.s g.ack).1.sent),.bool ((acked c.s g.ack).1.fin),.bool ((acked c.s g.ack).1.finSent),.bool ((acked c.s g.ack).1.done),.int .i64 c.r.next,.string c.r.data,.slice v1a c.r.held.length v1c,.int .i64 c.r.fin,.bool c.r.done,.int .i64 (farW g.window c.o),.int .i64 (max c.most (farW g.window c.o)),.int .i64 c.o.mss,.int .i64 c.o.scale,.bool c.o.sack,.bool c.o.stamp,.int .i64 c.o.val,.int .i64 c.o.echo,.int .i64 3,.int .i64 0]⟩ ?_
 exact ⟨⟨(⟨c.t,c.state,(acked c.s g.ack).1,c.r,farW g.window c.o,max c.most (farW g.window c.o),c.o,3,0⟩),(by unfold heardMid; first | (simp [*]; done) | grind)⟩,kF 5 0 [2,3,4,5]⟩
 have h6p := of_decide_eq_false h6
 refine kK ?_
 exact ⟨⟨(⟨c.t,c.state,(acked c.s g.ack).1,c.r,farW g.window c.o,max c.most (farW g.window c.o),c.o,0,0⟩),(by unfold heardMid; first | (simp [*]; done) | grind)⟩,kF 5 0 [2,3,4,5]⟩
 have h5p := neF h5
 refine kK ?_
 exact ⟨⟨({ c with s := (acked c.s g.ack).1,window := farW g.window c.o,most := max c.most (farW g.window c.o) }),(by unfold heardMid; first | (simp [*]; done) | grind)⟩,kF 5 0 [2,3,4,5]⟩
 have h4p := neF h4
 refine kRD 4 [2,3,4,5,8,55] [(55,.v (.bool ((flown ((acked c.s g.ack).1)) == 0)))] ?_
 refine kP 55 ((flown ((acked c.s g.ack).1)) == 0) (fun h7 => ?_) (fun h7 => ?_)
 have h7p := eqT h7
 refine kED [2,3,4,5,8,59] [(59,.v (.bool (c.state != 7)))] ?_
 refine kC (c.state != 7) (fun h8 => ?_) (fun h8 => ?_)
 have h8p := neT h8
 refine kQ ?_
 refine kEU [2,3,4,5,8] [] 3 ⟨50,conL { c with s := (acked c.s g.ack).1,window := farW g.window c.o,most := max c.most (farW g.window c.o),tries := 0 } (.slice v1a c.r.held.length v1c)⟩ ?_
 refine kQ ?_
 refine kEU [2,3,4,5,8] [] 3 ⟨50,[.int .i64 c.t.ip,.int .i64 c.t.port,.int .i64 c.t.my,.int .i64 c.state,.int .i64 ((acked c.s g.ack).1.una),.string ((acked c.s g.ack).1.data),.int .i64 ((acked c.s g.ack).1.sent),.bool ((acked c.s g.ack).1.fin),.bool ((acked c.s g.ack).1.finSent),.bool ((acked c.s g.ack).1.done),.int .i64 c.r.next,.string c.r.data,.slice v1a c.r.held.length v1c,.int .i64 c.r.fin,.bool c.r.done,.int .i64 (farW g.window c.o),.int .i64 (max c.most (farW g.window c.o)),.int .i64 c.o.mss,.int .i64 c.o.scale,.bool c.o.sack,.bool c.o.stamp,.int .i64 c.o.val,.int .i64 c.o.echo,.int .i64 0,.int .i64 0]⟩ ?_
 refine kQ ?_
 refine kED [2,3,4,5,63] [(63,.v (.bool (decide ((flown ((acked c.s g.ack).1)) > 0))))] ?_
 refine kC (decide ((flown ((acked c.s g.ack).1)) > 0)) (fun h9 => ?_) (fun h9 => ?_)
 have h9p := of_decide_eq_true h9
 refine kG ?_
 refine kEF [2,3,4,5] ⟨[(2,.p 0 0),(3,.p 1 0),(4,.p 2 0),(5,.p 3 0)],[⟨50,conL c (.slice Acrh c.r.held.length Ccrh)⟩,⟨54,segL g⟩,⟨50,conZ⟩,⟨50,[.int .i64 c.t.ip,.int .i64 c.t.port,.int .i64 c.t.my,.int .i64 c.state,.int .i64 ((acked c.s g.ack).1.una),.string ((acked c.s g.ack).1.data),.int .i64 ((acked c.s g.ack).1.sent),.bool ((acked c.s g.ack).1.fin),.bool ((acked c.s g.ack).1.finSent),.bool ((acked c.s g.ack).1.done),.int .i64 c.r.next,.string c.r.data,.slice v1a c.r.held.length v1c,.int .i64 c.r.fin,.bool c.r.done,.int .i64 (farW g.window c.o),.int .i64 (max c.most (farW g.window c.o)),.int .i64 c.o.mss,.int .i64 c.o.scale,.bool c.o.sack,.bool c.o.stamp,.int .i64 c.o.val,.int .i64 c.o.echo,.int .i64 3,.int .i64 0]⟩,⟨47,sndL (acked c.s g.ack).1⟩],[],[ownF w.heap.size (.slice v1a c.r.held.length v1c) 2 (c.r.held.map pceCells),slF (.slice Acrh c.r.held.length Ccrh) 2 (c.r.held.map pceCells)]⟩ ?_
 exact ⟨⟨(⟨c.t,c.state,(acked c.s g.ack).1,c.r,farW g.window c.o,max c.most (farW g.window c.o),c.o,3,0⟩),(by unfold heardMid; first | (simp [*]; done) | grind)⟩,kF 5 0 [2,3,4,5]⟩
 have h9p := of_decide_eq_false h9
 refine kK ?_
 exact ⟨⟨(⟨c.t,c.state,(acked c.s g.ack).1,c.r,farW g.window c.o,max c.most (farW g.window c.o),c.o,0,0⟩),(by unfold heardMid; first | (simp [*]; done) | grind)⟩,kF 5 0 [2,3,4,5]⟩
 have h8p := neF h8
 refine kK ?_
 exact ⟨⟨({ c with s := (acked c.s g.ack).1,window := farW g.window c.o,most := max c.most (farW g.window c.o) }),(by unfold heardMid; first | (simp [*]; done) | grind)⟩,kF 5 0 [2,3,4,5]⟩
 have h7p := eqF h7
 refine kED [2,3,4,5,8,59] [(59,.v (.bool false))] ?_
 refine kN ?_
 refine kK ?_
 exact ⟨⟨({ c with s := (acked c.s g.ack).1,window := farW g.window c.o,most := max c.most (farW g.window c.o) }),(by unfold heardMid; first | (simp [*]; done) | grind)⟩,kF 5 0 [2,3,4,5]⟩
 refine kK ?_
 exact ⟨⟨(c),(by unfold heardMid; first | (simp [*]; done) | grind)⟩,kF 5 0 [2,3,4,5]⟩
 rintro ⟨m,hm5⟩
 try dsimp only
 try dsimp only at hm5
 have hmr : m.r = c.r := by rw [hm5]; exact (heardMid_eq c g).1
 have hm1 : m.r.held.length ≤ 1048576 := by rw [hmr]; exact hkn
 have hm2 : ∀ p ∈ m.r.held,p.text.size ≤ 1048576 := by rw [hmr]; exact hm
 have hm3 : m.r.data.size ≤ 4611686018427387904 := by rw [hmr]; exact hsz
 refine kS ?_
 refine kQ ?_
 refine kCD 2 [2,3,4,5,66] [(66,.v (.int .i64 c.state))] 55 [.int .i64 c.state,.int .i64 1,.int .i64 3] (some 67) rfl (xc_s fun ww hf => l1In_c c.state 1 3 ww ) ?_
 intro _
 refine kED [2,3,4,5,67] [] ?_
 refine kC (inB c.state 1 3) (fun h10 => ?_) (fun h10 => ?_)
 have h10i := inB_tt.1 (show inB c.state 1 3 = true from by simpa using h10)
 refine xe_region0 [true,true,true,false,true] (by kernel_rfl) (fun ρ σ => ?_)
 refine kTS [0,1,2,3,4,5,6] [74,73,71,69,4,5] 4 [(74,.v (.agg (segL g).toArray)),(73,.v (.string g.body)),(71,.v (.int .i64 g.seq)),(69,.v (.agg (rcvL c.r (.slice Acrh c.r.held.length Ccrh)).toArray)),(4,.p 2 0),(5,.p 3 0)] ?_
 refine kA [7] ?_
 refine kSC 7 56 [.agg (segL g).toArray,.int .i64 1] (some 75) rfl (xc_b fun ww hf => sHas_c g.src g.dst g.seq g.ack g.flags g.window g.o.mss g.o.scale g.o.sack g.o.stamp g.o.val g.o.echo g.body 1 ww ) ?_
 intro _
 refine kA [8] ?_
 refine kSC 8 7 [.agg (rcvL c.r (.slice Acrh c.r.held.length Ccrh)).toArray,.int .i64 g.seq,.string g.body,.bool (hasF g.flags 1)] (some 76) rfl (xc_r fun ww hw hf => ysArrived_c c.r (.slice Acrh c.r.held.length Ccrh) g.seq g.body (hasF g.flags 1) ww (hf _ m1) (by assumption) (by assumption) (by omega) (by omega) w.heap.size hw) ?_
 rintro ⟨v11a,v11c⟩
 have hz12 := arrived_sz (H := 1048576) (T := 1048576) (D := 4611686018427387904) (r := c.r) (seq := g.seq) (t := g.body) (fin := (hasF g.flags 1)) (by assumption) (by assumption) (by assumption) (by omega) (by omega) (by omega)
 obtain ⟨hz12a,hz12b,hz12c⟩ := hz12
 refine kTS [9] [77,76,4,5] 1 [(77,.p 3 10),(76,.v (.agg (rcvL (arrived c.r g.seq g.body (hasF g.flags 1)) (.slice v11a ((arrived c.r g.seq g.body (hasF g.flags 1)).held.length) v11c)).toArray)),(4,.p 2 0),(5,.p 3 0)] ?_
 refine kA [10] ?_
 refine kSS 10 3 10 (rcvL (arrived c.r g.seq g.body (hasF g.flags 1)) (.slice v11a ((arrived c.r g.seq g.body (hasF g.flags 1)).held.length) v11c)) rfl ?_
 refine kZ ?_
 refine kQ ?_
 refine kCD 1 [4,78] [(78,.v (.agg (conL { m with r := (arrived c.r g.seq g.body (hasF g.flags 1)) } (.slice v11a ((arrived c.r g.seq g.body (hasF g.flags 1)).held.length) v11c)).toArray))] 57 [.agg (conL { m with r := (arrived c.r g.seq g.body (hasF g.flags 1)) } (.slice v11a ((arrived c.r g.seq g.body (hasF g.flags 1)).held.length) v11c)).toArray] (some 79) rfl (xc_r fun ww hw hf => ysTurned_c ({ m with r := (arrived c.r g.seq g.body (hasF g.flags 1)) }) (.slice v11a ((arrived c.r g.seq g.body (hasF g.flags 1)).held.length) v11c) ww (rowF_sl (hf _ m0)) (by assumption) (by assumption) (by omega) w.heap.size hw) ?_
 rintro ⟨v13a,v13c⟩
 have hbd14 : (turned ({ m with r := (arrived c.r g.seq g.body (hasF g.flags 1)) })).r.held.length ≤ 1048576 := turned_bd _  (by omega)
 refine kEU [4] [(4,.p 2 0)] 2 ⟨50,conL (turned ({ m with r := (arrived c.r g.seq g.body (hasF g.flags 1)) })) (.slice v13a ((turned ({ m with r := (arrived c.r g.seq g.body (hasF g.flags 1)) })).r.held.length) v13c)⟩ ?_
 refine kR ?_
 have hmod : heard c g = (turned ({ m with r := (arrived c.r g.seq g.body (hasF g.flags 1)) })) := by first | (unfold heard; rw [if_pos hv5,← hm5]; unfold heardR; rw [if_pos (by assumption)]; done) | (unfold heard; rw [if_pos hv5,← hm5]; unfold heardR; rw [if_neg (by simp [*]; done),← hmr]; done) | (unfold heard; rw [if_neg hv5]; done)
 exact ⟨[.agg (conL (turned ({ m with r := (arrived c.r g.seq g.body (hasF g.flags 1)) })) (.slice v13a ((turned ({ m with r := (arrived c.r g.seq g.body (hasF g.flags 1)) })).r.held.length) v13c)).toArray],by kernel_rfl,fun w' hb hf ha => by rw [hmod]; exact xo1 ((v13a,v13c)) rfl rfl (pO (hf _ m0) hB) hb⟩
 have h10i := inB_ff.1 (show inB c.state 1 3 = false from by simpa using h10)
 refine kK ?_
 refine kQ ?_
 refine kCD 1 [4,78] [(78,.v (.agg (conL m (.slice v1a m.r.held.length v1c)).toArray))] 57 [.agg (conL m (.slice v1a m.r.held.length v1c)).toArray] (some 79) rfl (xc_r fun ww hw hf => ysTurned_c m (.slice v1a m.r.held.length v1c) ww (Own.sl (hf _ m0)) (by assumption) (by assumption) (by omega) w.heap.size hw) ?_
 rintro ⟨v15a,v15c⟩
 have hbd16 : (turned m).r.held.length ≤ 1048576 := turned_bd _  (by omega)
 refine kEU [4] [(4,.p 2 0)] 2 ⟨50,conL (turned m) (.slice v15a ((turned m).r.held.length) v15c)⟩ ?_
 refine kR ?_
 have hmod : heard c g = (turned m) := by first | (unfold heard; rw [if_pos hv5,← hm5]; unfold heardR; rw [if_pos (by assumption)]; done) | (unfold heard; rw [if_pos hv5,← hm5]; unfold heardR; rw [if_neg (by simp [*]; done),← hmr]; done) | (unfold heard; rw [if_neg hv5]; done)
 exact ⟨[.agg (conL (turned m) (.slice v15a ((turned m).r.held.length) v15c)).toArray],by kernel_rfl,fun w' hb hf ha => by rw [hmod]; exact xo1 ((v15a,v15c)) rfl rfl (pO (hf _ m0) hB) hb⟩
theorem arrStore_c (B gh gd bh bd W off : Nat) (sl : List Int) (x : Int) (w : World) (hB : B ≤ w.heap.size) (hF : (arrF B gh gd bh bd 78 59 4 5 W sl).p w) (hlen : W ≤ sl.length) (ho : off < W) (hx : 0 ≤ x ∧ x ≤ 255) : Calls Try.prog 42 #[.int .i64 (off : Int), .int .u8 x, .pointer (some ⟨gh, 0, none⟩), .pointer (some ⟨gd, 0, none⟩)] w fun e w' => e = .returned (.tuple #[]) ∧ (arrF B gh gd bh bd 78 59 4 5 W (stOne sl off x)).p w' ∧ Chgd (arrF B gh gd bh bd 78 59 4 5 W sl).blk w w' := by
 obtain ⟨hF4,hFa⟩ := hF
 simp only [List.mem_cons,List.not_mem_nil,or_false,forall_eq_or_imp,forall_eq] at hF4
 obtain ⟨hF1,hF2,hF3,hF5⟩ := hF4
 obtain ⟨z,hz⟩ : ∃ z,sl[off]? = some z := ⟨_,List.getElem?_eq_getElem (by omega)⟩
 refine x_callsMA (args := [.int .i64 (off : Int),.int .u8 x,.pointer (some ⟨gh,0,none⟩),.pointer (some ⟨gd,0,none⟩)]) (fn := Try.f42) [cellF B gh 78 [.slice (some ⟨bh,0,none⟩) W W],cellF B gd 59 [.slice (some ⟨bd,0,none⟩) W W],rowF B 4 1 (.slice (some ⟨bh,0,none⟩) W W) ((hvOf W sl).map boolRow),rowF B 5 1 (.slice (some ⟨bd,0,none⟩) W W) ((dtOf W sl).map byteRow),frF w (arrF B gh gd bh bd 78 59 4 5 W sl).blk] B Try.func42 rfl Try.ntmps42 rfl hB (by simp only [List.mem_cons,List.not_mem_nil,or_false,forall_eq_or_imp,forall_eq]; exact ⟨hF1,hF2,hF3,hF5,frF_start w _⟩) (apart_frS hFa fun g hg b hb => ⟨g,hg,hb⟩) ?_
 refine kQ ?_
 refine kOF 0 [0,1,2,3] ⟨[(0,.v (.int .i64 (off : Int))),(1,.v (.int .u8 x)),(2,.v (.pointer (some ⟨gh,0,none⟩))),(3,.v (.pointer (some ⟨gd,0,none⟩)))],[],[],[cellF B gh 78 [.slice (some ⟨bh,0,none⟩) W W],cellF B gd 59 [.slice (some ⟨bd,0,none⟩) W W],rowF B 4 1 (.slice (some ⟨bh,0,none⟩) W W) ((hvOf W sl).map boolRow),rowF B 5 1 (.slice (some ⟨bd,0,none⟩) W W) ((dtOf W sl).map byteRow),frF w (arrF B gh gd bh bd 78 59 4 5 W sl).blk]⟩ (.slice (some ⟨bh,0,none⟩) W W) rfl (fun _ _ _ ww hr => ldP_run (off := 0) (B := B) (g := gh) (T := 78) (cs := [.slice (some ⟨bh,0,none⟩) W W]) hr rfl (by kernel_rfl) (by simp) (by kernel_rfl)) ?_
 refine kOD 1 [0,1,2,3,6,7] [(7,.v (.int .i64 (off : Int)))] (.pointer (some ⟨bh,off * 1,none⟩)) rfl (fun _ _ _ ww hr => act_ix (kd := .i64) (T := 78) (e := 4) (K := 1) (g := bh) (N := W) (cap := W) off rfl hr.1 rfl rfl (by kernel_rfl) (by kernel_rfl) (by kernel_rfl) ho ww) ?_
 refine kOD 0 [0,1,2,3,8] [] (.bool (decide (0 ≤ z))) rfl (fun _ _ _ ww hr => ldR_run (po := 0) (j := off) (row := [.bool (decide (0 ≤ z))]) (rowF B 4 1 (.slice (some ⟨bh,0,none⟩) W W) ((hvOf W sl).map boolRow)) hr rfl (by kernel_rfl) (by simp) (by simp only [List.getElem?_map,hvOf_get ho hz]; rfl) (by kernel_rfl) rfl rfl rfl) ?_
 refine kED [0,1,2,3,10] [(10,.v (.bool (!(decide (0 ≤ z)))))] ?_
 refine kC (!(decide (0 ≤ z))) (fun h1 => ?_) (fun h1 => ?_)
 have h1n := not_t h1
 have hzz := of_decide_eq_false h1n
 refine kQ ?_
 refine kOD 0 [0,1,2,3] [] (.slice (some ⟨bh,0,none⟩) W W) rfl (fun _ _ _ ww hr => ldP_run (off := 0) (B := B) (g := gh) (T := 78) (cs := [.slice (some ⟨bh,0,none⟩) W W]) hr rfl (by kernel_rfl) (by simp) (by kernel_rfl)) ?_
 refine kOD 1 [0,1,3,11,12] [(12,.v (.int .i64 (off : Int)))] (.pointer (some ⟨bh,off * 1,none⟩)) rfl (fun _ _ _ ww hr => act_ix (kd := .i64) (T := 78) (e := 4) (K := 1) (g := bh) (N := W) (cap := W) off rfl hr.1 rfl rfl (by kernel_rfl) (by kernel_rfl) (by kernel_rfl) ho ww) ?_
 refine xl_hs 0 [0,1,3,13] ⟨[(0,.v (.int .i64 (off : Int))),(1,.v (.int .u8 x)),(3,.v (.pointer (some ⟨gd,0,none⟩))),(13,.v (.pointer (some ⟨bh,off * 1,none⟩)))],[],[],[cellF B gh 78 [.slice (some ⟨bh,0,none⟩) W W],cellF B gd 59 [.slice (some ⟨bd,0,none⟩) W W],rowF B 4 1 (.slice (some ⟨bh,0,none⟩) W W) ((hvOf W sl).map boolRow),rowF B 5 1 (.slice (some ⟨bd,0,none⟩) W W) ((dtOf W sl).map byteRow),frF w (arrF B gh gd bh bd 78 59 4 5 W sl).blk]⟩ (by kernel_rfl) rfl (by kernel_rfl) rfl (by kernel_rfl) (HSg.hs (hs_stR (g := bh) (B := B) (e := 4) (K := 1) (N := W) (cap := W) (rs := ((hvOf W sl).map boolRow)) (rs' := ((hvOf W sl).set off true).map boolRow) (v := (.bool true)) (i := 2) (off := off * 1) off 0 [.bool (decide (0 ≤ z))] (row' := [.bool true]) rfl rfl (by kernel_rfl) rfl (by kernel_rfl) (by kernel_rfl) (by kernel_rfl) (by kernel_rfl) (cutW_le w B) (by simp only [List.getElem?_map,hvOf_get ho hz]; rfl) (by kernel_rfl) rfl (by rw [List.map_set]; rfl))) ?_
 refine kED [0,1,3] [] ?_
 refine kG ?_
 refine kOD 0 [0,1,3] [] (.slice (some ⟨bd,0,none⟩) W W) rfl (fun _ _ _ ww hr => ldP_run (off := 0) (B := B) (g := gd) (T := 59) (cs := [.slice (some ⟨bd,0,none⟩) W W]) hr rfl (by kernel_rfl) (by simp) (by kernel_rfl)) ?_
 refine kOD 2 [14,15,16] [(15,.v (.int .i64 (off : Int))),(16,.v (.int .u8 x))] (.pointer (some ⟨bd,off * 1,none⟩)) rfl (fun _ _ _ ww hr => act_ix (kd := .i64) (T := 59) (e := 5) (K := 1) (g := bd) (N := W) (cap := W) off rfl hr.1 rfl rfl (by kernel_rfl) (by kernel_rfl) (by kernel_rfl) ho ww) ?_
 refine xl_hs 0 [16,17] ⟨[(16,.v (.int .u8 x)),(17,.v (.pointer (some ⟨bd,off * 1,none⟩)))],[],[],[rowF B 4 1 (.slice (some ⟨bh,0,none⟩) W W) (((hvOf W sl).set off true).map boolRow),cellF B gh 78 [.slice (some ⟨bh,0,none⟩) W W],cellF B gd 59 [.slice (some ⟨bd,0,none⟩) W W],rowF B 5 1 (.slice (some ⟨bd,0,none⟩) W W) ((dtOf W sl).map byteRow),frF w (arrF B gh gd bh bd 78 59 4 5 W sl).blk]⟩ (by kernel_rfl) rfl (by kernel_rfl) rfl (by kernel_rfl) (HSg.hs (hs_stR (g := bd) (B := B) (e := 5) (K := 1) (N := W) (cap := W) (rs := ((dtOf W sl).map byteRow)) (rs' := ((dtOf W sl).set off x).map byteRow) (v := (.int .u8 x)) (i := 3) (off := off * 1) off 0 [.int .u8 (max z 0)] (row' := [.int .u8 x]) rfl rfl (by kernel_rfl) rfl (by kernel_rfl) (by kernel_rfl) (by kernel_rfl) (by kernel_rfl) (cutW_le w B) (by simp only [List.getElem?_map,dtOf_get ho hz]; rfl) (by kernel_rfl) rfl (by rw [List.map_set]; rfl))) ?_
 refine kES [] [] ?_
 exact ⟨[],by kernel_rfl,fun w' hb hf ha => ⟨rfl,(by rw [stOne_free hz (by omega)]; unfold arrF; rw [← hvOf_set hx.1,← dtOf_set hx.1]; exact allF_pick [2,3,1,0] hf ha (by kernel_rfl) (by kernel_rfl)),frF_chgd (hf (frF w (arrF B gh gd bh bd 78 59 4 5 W sl).blk) (by simp)) hb rfl rfl rfl⟩⟩
 have h1n := not_f h1
 have hzz := of_decide_eq_true h1n
 refine kK ?_
 exact ⟨[],by kernel_rfl,fun w' hb hf ha => ⟨rfl,(by rw [stOne_full hz (by omega)]; exact allF_pick [0,1,2,3] hf ha (by kernel_rfl) (by kernel_rfl)),frF_chgd (hf (frF w (arrF B gh gd bh bd 78 59 4 5 W sl).blk) (by simp)) hb rfl rfl rfl⟩⟩
theorem yIndexB_c (l : List Bool) (lV : Value) (b : Bool) (w : World) (hl_lV : Sl w lV 1 (l.map boolRow))  : Calls Try.prog 82 #[lV, .bool b] w fun e w' => e = .returned (.int .i64 (idxL b l 0)) ∧ Below w.heap.size w w' := by
 obtain ⟨Al,Cl,hvl⟩ := hl_lV.form
 rw [List.length_map] at hvl; subst hvl
 have hnl := hl_lV.len; rw [List.length_map] at hnl
 have hql := Sl.capLe hl_lV
 refine x_calls (args := [.slice Al l.length Cl,.bool b]) (fn := Try.f82) [slF (.slice Al l.length Cl) 1 (l.map boolRow)] Try.func82 rfl Try.ntmps82 rfl (by simp only [List.mem_cons,List.not_mem_nil,or_false,forall_eq_or_imp,forall_eq]; exact ⟨rfl,hl_lV⟩) ?_
 refine kQ ?_
 refine kEF [0,1] ⟨[(0,.v (.slice Al l.length Cl)),(1,.v (.bool b))],[],[],[slF (.slice Al l.length Cl) 1 (l.map boolRow)]⟩ ?_
 refine kS ?_
 refine kQ ?_
 refine kED [0,1,7,8] [(7,.v (.int .i64 ((l.length : Nat) : Int))),(8,.v (.int .i64 0))] ?_
 refine xw_block ?_
 refine xw_loopW (α := {x : Nat // (fun (k : Nat) => k ≤ l.length ∧ idxL b l 0 = idxL b (l.drop k) k) x}) (fun x => (fun (k : Nat) => (⟨[(0,.v (.slice Al l.length Cl)),(1,.v (.bool b)),(7,.v (.int .i64 ((l.length : Nat) : Int))),(8,.v (.int .i64 (k : Int)))],[],[],[slF (.slice Al l.length Cl) 1 (l.map boolRow)]⟩ : St)) x.1) (fun x => l.length - x.1) ⟨(0),⟨Nat.zero_le _,rfl⟩⟩ (kF 0 0 [0,1,7,8]) ?_
 rintro ⟨k,hk,HK⟩
 try dsimp only
 try dsimp only at hk HK
 refine kQ ?_
 refine kED [0,1,7,8,9] [(9,.v (.bool (decide ((k : Int) < ((l.length : Nat) : Int)))))] ?_
 refine kS ?_
 refine kC (decide ((k : Int) < ((l.length : Nat) : Int))) (fun h1 => ?_) (fun h1 => ?_)
 have h1p := of_decide_eq_true h1
 have hlt : k < l.length := by simpa using h1
 obtain ⟨x,hx⟩ : ∃ x,l[k]? = some x := ⟨_,List.getElem?_eq_getElem hlt⟩
 refine kK ?_
 refine kS ?_
 refine xw_block ?_
 refine kQ ?_
 refine kED [0,1,5,7,8] [(5,.v (.int .i64 (k : Int)))] ?_
 refine kQ ?_
 refine xl_indexD (kd := .i64) (T := 78) (e := 4) (K := 1) 3 [0,1,5,7,8,11,12,13] [(11,.v (.bool b)),(12,.v (.slice Al l.length Cl)),(13,.v (.int .i64 (k : Int)))] k [.bool x] (slF (.slice Al l.length Cl) 1 (l.map boolRow)) (by kernel_rfl) rfl (by kernel_rfl) rfl rfl (by kernel_rfl) (by kernel_rfl) (by kernel_rfl) (by kernel_rfl) hlt (by simp) (fun w h => h) (fun b h => h) (by simp only [List.getElem?_map,hx]; rfl) ?_
 refine kED [0,1,5,7,8,16] [(16,.v (.bool (b == x)))] ?_
 refine kC (b == x) (fun h2 => ?_) (fun h2 => ?_)
 have h2p := eqT h2
 refine kQ ?_
 refine kES [4] [(4,.v (.int .i64 (k : Int)))] ?_
 refine kR ?_
 have hmod : idxL b l 0 = (k : Int) := by first | exact HK | (rw [HK,drop_cons_of hx,idxL,if_pos (by assumption)])
 exact ⟨[.int .i64 (k : Int)],by kernel_rfl,fun w' hb hf => by rw [hmod]; exact ⟨rfl,hb⟩⟩
 have h2p := eqF h2
 refine kK ?_
 refine kG ?_
 refine kRS 2 [0,1,7,8] [(0,.v (.slice Al l.length Cl)),(1,.v (.bool b)),(7,.v (.int .i64 ((l.length : Nat) : Int))),(8,.v (.int .i64 (IntKind.i64.wrap ((k : Int) + 1))))] ?_
 refine xl_eqS (t' := [(0,.v (.slice Al l.length Cl)),(1,.v (.bool b)),(7,.v (.int .i64 ((l.length : Nat) : Int))),(8,.v (.int .i64 ((k : Int) + 1)))]) (by rw [show (IntKind.i64.wrap ((k : Int) + 1)) = ((k : Int) + 1) from wrap_id (by omega) (by omega)]) ?_
 refine kED [0,1,7,8] [] ?_
 exact ⟨⟨(k + 1),⟨by omega,by rw [HK,drop_cons_of hx,idxL,if_neg (by assumption)]⟩⟩,kF 0 0 [0,1,7,8],by show l.length - (k + 1) < l.length - k; omega⟩
 have h1p := of_decide_eq_false h1
 have hge : k = l.length := by simp at h1; omega
 subst hge; rw [List.drop_length] at HK
 refine xw_exit ?_
 refine kQ ?_
 refine kES [4] [(4,.v (.int .i64 (-1)))] ?_
 refine kR ?_
 have hmod : idxL b l 0 = (-1) := by first | exact HK | (rw [HK,drop_cons_of hx,idxL,if_pos (by assumption)])
 exact ⟨[.int .i64 (-1)],by kernel_rfl,fun w' hb hf => by rw [hmod]; exact ⟨rfl,hb⟩⟩
theorem yContainsB_c (l : List Bool) (lV : Value) (b : Bool) (w : World) (hl_lV : Sl w lV 1 (l.map boolRow))  : Calls Try.prog 44 #[lV, .bool b] w fun e w' => e = .returned (.bool (hasB l b)) ∧ Below w.heap.size w w' := by
 obtain ⟨Al,Cl,hvl⟩ := hl_lV.form
 rw [List.length_map] at hvl; subst hvl
 have hnl := hl_lV.len; rw [List.length_map] at hnl
 have hql := Sl.capLe hl_lV
 refine x_calls (args := [.slice Al l.length Cl,.bool b]) (fn := Try.f44) [slF (.slice Al l.length Cl) 1 (l.map boolRow)] Try.func44 rfl Try.ntmps44 rfl (by simp only [List.mem_cons,List.not_mem_nil,or_false,forall_eq_or_imp,forall_eq]; exact ⟨rfl,hl_lV⟩) ?_
 refine kQ ?_
 refine kEF [0,1] ⟨[(0,.v (.slice Al l.length Cl)),(1,.v (.bool b))],[],[],[slF (.slice Al l.length Cl) 1 (l.map boolRow)]⟩ ?_
 refine kQ ?_
 refine kCS 2 [5,6] [(5,.v (.slice Al l.length Cl)),(6,.v (.bool b))] 82 [.slice Al l.length Cl,.bool b] (some 7) rfl (xc_b fun ww hf => yIndexB_c l (.slice Al l.length Cl) b ww (hf _ m0) ) ?_
 intro _
 refine kES [4] [(4,.v (.bool (decide ((idxL b l 0) ≥ 0))))] ?_
 refine kR ?_
 have hmod : hasB l b = (decide ((idxL b l 0) ≥ 0)) := by first | exact (idx_has _ _ _).symm
 exact ⟨[.bool (decide ((idxL b l 0) ≥ 0))],by kernel_rfl,fun w' hb hf => by rw [hmod]; exact ⟨rfl,hb⟩⟩
theorem yiArrived_c (r : Rcv) (r_heldV : Value) (seq : Int) (text : ByteArray) (fin : Bool) (w : World) (hl_r_heldV : Sl w r_heldV 2 (r.held.map pceCells)) (hkn : r.held.length ≤ 1048576) (hm : ∀ p ∈ r.held, p.text.size ≤ 1048576) (hsz : r.data.size ≤ 4611686018427387904) (hts : text.size ≤ 4611686018427387904) (B : Nat) (hB : B ≤ w.heap.size) : Calls Try.prog 9 #[.agg (rcvL r r_heldV).toArray, .int .i64 seq, .string text, .bool fin] w fun e w' => XRs w w' e (α := Option Addr × Nat) (fun y => .agg (rcvL (arrived r seq text fin) (.slice y.1 ((arrived r seq text fin).held.length) y.2)).toArray) (fun y => [ownF B (.slice y.1 ((arrived r seq text fin).held.length) y.2) 2 ((arrived r seq text fin).held.map pceCells)]) := by
 obtain ⟨Arh,Crh,hvrh⟩ := hl_r_heldV.form
 rw [List.length_map] at hvrh; subst hvrh
 have hnrh := hl_r_heldV.len; rw [List.length_map] at hnrh
 have hqrh := Sl.capLe hl_r_heldV
 refine x_callsA (args := [.agg (rcvL r (.slice Arh r.held.length Crh)).toArray,.int .i64 seq,.string text,.bool fin]) (fn := Try.f9) [slF (.slice Arh r.held.length Crh) 2 (r.held.map pceCells)] Try.func9 rfl Try.ntmps9 rfl (by simp only [List.mem_cons,List.not_mem_nil,or_false,forall_eq_or_imp,forall_eq]; exact ⟨rfl,hl_r_heldV⟩) ?_
 refine kQ ?_
 refine kEF [1,2,3,4,8] ⟨[(1,.v (.int .i64 seq)),(2,.v (.string text)),(3,.v (.bool fin)),(4,.p 0 0),(8,.p 1 0)],[⟨28,rcvL r (.slice Arh r.held.length Crh)⟩,⟨28,rcvZ⟩],[],[slF (.slice Arh r.held.length Crh) 2 (r.held.map pceCells)]⟩ ?_
 refine kQ ?_
 refine kCD 1 [1,2,3,4,8,24] [(24,.v (.agg (rcvL r (.slice Arh r.held.length Crh)).toArray))] 40 [.agg (rcvL r (.slice Arh r.held.length Crh)).toArray] (some 25) rfl (xc_r fun ww hw hf => ycloneReceiver_c r (.slice Arh r.held.length Crh) ww (hf _ m0) (by assumption) w.heap.size hw) ?_
 rintro ⟨v1a,v1c⟩
 refine kEA [1,2,3,4,8,9] [(9,.p 2 0)] [⟨28,rcvL r (.slice v1a r.held.length v1c)⟩] ?_
 refine kS ?_
 refine kQ ?_
 refine kCD 1 [1,2,3,4,8,9,26] [(26,.v (.agg (rcvL r (.slice Arh r.held.length Crh)).toArray))] 30 [.agg (rcvL r (.slice Arh r.held.length Crh)).toArray] (some 27) rfl (xc_b fun ww hf => yiReceiverOk_c r (.slice Arh r.held.length Crh) ww (hf _ m1) (by assumption) (by omega)) ?_
 intro _
 refine kRD 2 [1,2,3,4,8,9,29] [(29,.v (.bool (!(receiverOk r))))] ?_
 refine kP 29 (!(receiverOk r)) (fun h2 => ?_) (fun h2 => ?_)
 have h2n := not_t h2
 refine kED [1,2,3,4,8,9,32] [(32,.v (.bool true))] ?_
 refine kT ?_
 refine kQ ?_
 refine kEU [8] [(8,.p 1 0)] 1 ⟨28,rcvL r (.slice v1a r.held.length v1c)⟩ ?_
 refine kR ?_
 have hmod : arrived r seq text fin = r := by first | exact arrived_over hrk (by assumption) (by rw [← hall,← hnf,hpc]; omega) | (unfold arrived; rw [if_neg (by grind)]; done) | (unfold arrived; rw [if_pos (by grind),← hall,← hnf,hpc,← hfp]; first | (rw [if_pos (by omega)]; done) | (rw [if_neg (by omega),if_pos (by first | omega | simp_all)]; done) | (rw [if_neg (by omega),if_neg (by first | omega | simp_all)]; done))
 exact ⟨[.agg (rcvL r (.slice v1a r.held.length v1c)).toArray],by kernel_rfl,fun w' hb hf ha => by rw [hmod]; exact xo1 ((v1a,v1c)) rfl rfl (pO (hf _ m0) hB) hb⟩
 have h2n := not_f h2
 have hrk := h2n
 obtain ⟨hf0,hf1,hf2,hf3,hf4,hheld⟩ := rok_facts h2n
 have hwb := windowOf_bd r
 have hN := slotsOf_len r
 obtain ⟨W,hW⟩ : ∃ W : Nat,windowOf r = (W : Int) := ⟨(windowOf r).toNat,by omega⟩
 have hW2 : W ≤ 32 := by omega
 have hM : (if r.fin = -1 then windowOf r else r.fin) ≤ (W : Int) := by split <;> omega
 refine kED [1,2,3,4,8,9,32] [(32,.v (.bool r.done))] ?_
 refine kC (r.done) (fun h3 => ?_) (fun h3 => ?_)
 refine kQ ?_
 refine kEU [8] [(8,.p 1 0)] 1 ⟨28,rcvL r (.slice v1a r.held.length v1c)⟩ ?_
 refine kR ?_
 have hmod : arrived r seq text fin = r := by first | exact arrived_over hrk (by assumption) (by rw [← hall,← hnf,hpc]; omega) | (unfold arrived; rw [if_neg (by grind)]; done) | (unfold arrived; rw [if_pos (by grind),← hall,← hnf,hpc,← hfp]; first | (rw [if_pos (by omega)]; done) | (rw [if_neg (by omega),if_pos (by first | omega | simp_all)]; done) | (rw [if_neg (by omega),if_neg (by first | omega | simp_all)]; done))
 exact ⟨[.agg (rcvL r (.slice v1a r.held.length v1c)).toArray],by kernel_rfl,fun w' hb hf ha => by rw [hmod]; exact xo1 ((v1a,v1c)) rfl rfl (pO (hf _ m0) hB) hb⟩
 refine kK ?_
 refine kQ ?_
 refine kCD 1 [1,2,3,4,8,9,34] [(34,.v (.agg (rcvL r (.slice Arh r.held.length Crh)).toArray))] 41 [.agg (rcvL r (.slice Arh r.held.length Crh)).toArray] (some 35) rfl (xc_b fun ww hf => iWindowOf_c r.next r.data r.held (.slice Arh r.held.length Crh) r.fin r.done ww (by omega)) ?_
 intro _
 refine kRS 1 [1,2,3,4,8,9,10] [(1,.v (.int .i64 seq)),(2,.v (.string text)),(3,.v (.bool fin)),(4,.p 0 0),(8,.p 1 0),(9,.p 2 0),(10,.v (.int .i64 (windowOf r)))] ?_
 refine xl_eqS (t' := [(1,.v (.int .i64 seq)),(2,.v (.string text)),(3,.v (.bool fin)),(4,.p 0 0),(8,.p 1 0),(9,.p 2 0),(10,.v (.int .i64 (W : Int)))]) (by rw [show (windowOf r) = (W : Int) from hW]) ?_
 refine kED [1,2,3,4,8,9,10] [] ?_
 refine kQ ?_
 refine kHD 1 [1,2,3,4,8,9,10,36] [(36,.v (.int .i64 (W : Int)))] rfl (hv_make (kl := .i64) (kc := .i64) (e := 5) (K := 1) (bytes := 1) (m := W) (z := .int .u8 0) (rs := (List.replicate W 0).map byteRow) rfl (by kernel_rfl) (by kernel_rfl) (by kernel_rfl) (by kernel_rfl) (by (try simp only [List.length_map,List.length_append,List.length_cons,List.length_nil,List.length_take,List.length_drop,maxLen]); omega) (by (try simp only [List.length_map,List.length_append,List.length_cons,List.length_nil,List.length_take,List.length_drop,maxLen]); omega) (by rw [List.map_replicate]; rfl)) ?_
 intro g4
 refine kEA [1,2,3,4,8,9,10,11] [(11,.p 3 0)] [⟨59,[.slice (some ⟨g4,0,none⟩) W W]⟩] ?_
 refine kQ ?_
 refine kHD 1 [1,2,3,4,8,9,10,11,38] [(38,.v (.int .i64 (W : Int)))] rfl (hv_make (kl := .i64) (kc := .i64) (e := 4) (K := 1) (bytes := 1) (m := W) (z := .bool false) (rs := (List.replicate W false).map boolRow) rfl (by kernel_rfl) (by kernel_rfl) (by kernel_rfl) (by kernel_rfl) (by (try simp only [List.length_map,List.length_append,List.length_cons,List.length_nil,List.length_take,List.length_drop,maxLen]); omega) (by (try simp only [List.length_map,List.length_append,List.length_cons,List.length_nil,List.length_take,List.length_drop,maxLen]); omega) (by rw [List.map_replicate]; rfl)) ?_
 intro g5
 refine kEA [1,2,3,4,8,9,10,11,12] [(12,.p 4 0)] [⟨78,[.slice (some ⟨g5,0,none⟩) W W]⟩] ?_
 refine kS ?_
 refine xw_pinB 12 78 [.slice (some ⟨g5,0,none⟩) W W] [⟨28,rcvL r (.slice Arh r.held.length Crh)⟩,⟨28,rcvZ⟩,⟨28,rcvL r (.slice v1a r.held.length v1c)⟩,⟨59,[.slice (some ⟨g4,0,none⟩) W W]⟩] rfl (by kernel_rfl) (by kernel_rfl) ?_
 intro gh hgh hghn
 refine xw_pinB 11 59 [.slice (some ⟨g4,0,none⟩) W W] [⟨28,rcvL r (.slice Arh r.held.length Crh)⟩,⟨28,rcvZ⟩,⟨28,rcvL r (.slice v1a r.held.length v1c)⟩] rfl (by kernel_rfl) (by kernel_rfl) ?_
 intro gd hgd hgdn
 refine xw_wk (wk_pick [1,0,2,3,4,5] [cellF w.heap.size gh 78 [.slice (some ⟨g5,0,none⟩) W W],cellF w.heap.size gd 59 [.slice (some ⟨g4,0,none⟩) W W],rowF w.heap.size 4 1 (.slice (some ⟨g5,0,none⟩) W W) ((List.replicate W false).map boolRow),rowF w.heap.size 5 1 (.slice (some ⟨g4,0,none⟩) W W) ((List.replicate W 0).map byteRow),ownF w.heap.size (.slice v1a r.held.length v1c) 2 (r.held.map pceCells),slF (.slice Arh r.held.length Crh) 2 (r.held.map pceCells)] (by kernel_rfl) (by kernel_rfl)) ?_
 refine xw_turnF (fs' := [arrF w.heap.size gh gd g5 g4 78 59 4 5 W (List.replicate 33 (-1)),ownF w.heap.size (.slice v1a r.held.length v1c) 2 (r.held.map pceCells),slF (.slice Arh r.held.length Crh) 2 (r.held.map pceCells)]) (fun ρ σ w' h => by rw [arrF,hvOf_start (by omega),dtOf_start (by omega)]; exact all_in (hs := [ownF w.heap.size (.slice v1a r.held.length v1c) 2 (r.held.map pceCells),slF (.slice Arh r.held.length Crh) 2 (r.held.map pceCells)]) (own4 rfl rfl rfl rfl) ρ σ w' h) ?_
 refine kG ?_
 refine kOF 0 [1,2,3,4,8,9,10,11,12] ⟨[(1,.v (.int .i64 seq)),(2,.v (.string text)),(3,.v (.bool fin)),(4,.p 0 0),(8,.p 1 0),(9,.p 2 0),(10,.v (.int .i64 (W : Int))),(11,.v (.pointer (some ⟨gd,0,none⟩))),(12,.v (.pointer (some ⟨gh,0,none⟩)))],[⟨28,rcvL r (.slice Arh r.held.length Crh)⟩,⟨28,rcvZ⟩,⟨28,rcvL r (.slice v1a r.held.length v1c)⟩],[],[arrF w.heap.size gh gd g5 g4 78 59 4 5 W (List.replicate 33 (-1)),ownF w.heap.size (.slice v1a r.held.length v1c) 2 (r.held.map pceCells),slF (.slice Arh r.held.length Crh) 2 (r.held.map pceCells)]⟩ (.func (.func 42) #[] #[.pointer (some ⟨gh,0,none⟩),.pointer (some ⟨gd,0,none⟩)]) rfl (fun _ _ _ ww hr => act_mkf [.pointer (some ⟨gh,0,none⟩),.pointer (some ⟨gd,0,none⟩)] hr.1 rfl (by kernel_rfl) ww) ?_
 refine kED [1,2,3,4,8,9,10,11,12,13] [(13,.v (.func (.func 42) #[] #[.pointer (some ⟨gh,0,none⟩),.pointer (some ⟨gd,0,none⟩)]))] ?_
 refine kS ?_
 refine kQ ?_
 refine kED [1,2,3,4,8,9,10,11,12,13,42,43,44] [(42,.v (.slice Arh r.held.length Crh)),(43,.v (.int .i64 ((r.held.length : Nat) : Int))),(44,.v (.int .i64 0))] ?_
 refine xw_block ?_
 refine xw_loopW (α := {x : Nat × List Int × Int // (fun (i : Nat) (l2 : List Int) (e : Int) => i ≤ r.held.length ∧ l2.length = 33 ∧ slotsOf r = putHeld l2 (r.held.drop i) ∧ heldOk (if r.fin = -1 then windowOf r else r.fin) e (r.held.drop i) = true ∧ 0 ≤ e ∧ e ≤ (W : Int) ∧ (∀ j,e.toNat ≤ j → j < 33 → l2[j]? = some (-1))) x.1 x.2.1 x.2.2}) (fun x => (fun (i : Nat) (l2 : List Int) (e : Int) => (⟨[(1,.v (.int .i64 seq)),(2,.v (.string text)),(3,.v (.bool fin)),(4,.p 0 0),(8,.p 1 0),(9,.p 2 0),(10,.v (.int .i64 (W : Int))),(11,.v (.pointer (some ⟨gd,0,none⟩))),(12,.v (.pointer (some ⟨gh,0,none⟩))),(13,.v (.func (.func 42) #[] #[.pointer (some ⟨gh,0,none⟩),.pointer (some ⟨gd,0,none⟩)])),(42,.v (.slice Arh r.held.length Crh)),(43,.v (.int .i64 ((r.held.length : Nat) : Int))),(44,.v (.int .i64 (i : Int)))],[⟨28,rcvL r (.slice Arh r.held.length Crh)⟩,⟨28,rcvZ⟩,⟨28,rcvL r (.slice v1a r.held.length v1c)⟩],[],[arrF w.heap.size gh gd g5 g4 78 59 4 5 W l2,ownF w.heap.size (.slice v1a r.held.length v1c) 2 (r.held.map pceCells),slF (.slice Arh r.held.length Crh) 2 (r.held.map pceCells)]⟩ : St)) x.1.1 x.1.2.1 x.1.2.2) (fun x => (fun (i : Nat) (l2 : List Int) (e : Int) => r.held.length - i) x.1.1 x.1.2.1 x.1.2.2) ⟨(0,(List.replicate 33 (-1)),0),⟨Nat.zero_le _,(by simp),rfl,rok_held hrk,Int.le_refl _,(by dsimp only; omega),(fun j h1 h2 => by rw [List.getElem?_replicate,if_pos h2])⟩⟩ ((wk_pick [0,1,2] [arrF w.heap.size gh gd g5 g4 78 59 4 5 W (List.replicate 33 (-1)),ownF w.heap.size (.slice v1a r.held.length v1c) 2 (r.held.map pceCells),slF (.slice Arh r.held.length Crh) 2 (r.held.map pceCells)] (by kernel_rfl) (by kernel_rfl)).trans <| kF 3 0 [1,2,3,4,8,9,10,11,12,13,42,43,44]) ?_
 rintro ⟨⟨i,l2,e⟩,hi,hl2,H2,hk,he0,heW,hfr⟩
 try dsimp only
 try dsimp only at hi hl2 H2 hk he0 heW hfr
 refine kQ ?_
 refine kED [1,2,3,4,8,9,10,11,12,13,42,43,44,45] [(45,.v (.bool (decide ((i : Int) < ((r.held.length : Nat) : Int)))))] ?_
 refine kS ?_
 refine kC (decide ((i : Int) < ((r.held.length : Nat) : Int))) (fun h6 => ?_) (fun h6 => ?_)
 have h6p := of_decide_eq_true h6
 have hlt2 : i < r.held.length := by simpa using h6
 obtain ⟨pp,hx⟩ : ∃ p,r.held[i]? = some p := ⟨_,List.getElem?_eq_getElem hlt2⟩
 have hin := hheld pp (List.mem_of_getElem? hx)
 obtain ⟨hst1,hst2,hst3⟩ := held_step hk hx
 have hpW : pp.off + (pp.text.size : Int) ≤ (W : Int) := Int.le_trans hst2 hM
 refine kK ?_
 refine kS ?_
 refine xw_block ?_
 refine kQ ?_
 refine xl_indexD (kd := .i64) (T := 26) (e := 81) (K := 2) 0 [1,2,3,4,8,9,10,11,12,13,42,43,44] [] i [.int .i64 pp.off,.string pp.text] (slF (.slice Arh r.held.length Crh) 2 (r.held.map pceCells)) (by kernel_rfl) rfl (by kernel_rfl) rfl rfl (by kernel_rfl) (by kernel_rfl) (by kernel_rfl) (by kernel_rfl) hlt2 (by simp) (fun w h => h) (fun b h => h) (by simp only [List.getElem?_map,hx]; rfl) ?_
 refine kEA [1,2,3,4,8,9,10,11,12,13,15,42,43,44] [(15,.p 3 0)] [⟨81,pceL pp⟩] ?_
 refine kQ ?_
 refine kED [1,2,3,4,8,9,10,11,12,13,15,42,43,44,50,51] [(50,.v (.int .i64 (pp.text.size : Int))),(51,.v (.int .i64 0))] ?_
 refine xw_block ?_
 refine xw_wk (wkf (s' := ⟨[(1,.v (.int .i64 seq)),(2,.v (.string text)),(3,.v (.bool fin)),(4,.p 0 0),(8,.p 1 0),(9,.p 2 0),(10,.v (.int .i64 (W : Int))),(11,.v (.pointer (some ⟨gd,0,none⟩))),(12,.v (.pointer (some ⟨gh,0,none⟩))),(13,.v (.func (.func 42) #[] #[.pointer (some ⟨gh,0,none⟩),.pointer (some ⟨gd,0,none⟩)])),(15,.p 3 0),(42,.v (.slice Arh r.held.length Crh)),(43,.v (.int .i64 ((r.held.length : Nat) : Int))),(44,.v (.int .i64 (i : Int))),(50,.v (.int .i64 (pp.text.size : Int))),(51,.v (.int .i64 0))],[⟨28,rcvL r (.slice Arh r.held.length Crh)⟩,⟨28,rcvZ⟩,⟨28,rcvL r (.slice v1a r.held.length v1c)⟩,⟨81,pceL pp⟩],[],[arrF w.heap.size gh gd g5 g4 78 59 4 5 W l2,ownF w.heap.size (.slice v1a r.held.length v1c) 2 (r.held.map pceCells),slF (.slice Arh r.held.length Crh) 2 (r.held.map pceCells)]⟩) 4 0 [1,2,3,4,8,9,10,11,12,13,15,42,43,44,50,51] (by kernel_rfl)) ?_
 refine xw_loopW (α := {x : Nat × List Int // (fun (q : Nat) (l3 : List Int) => q ≤ pp.text.size ∧ l3.length = 33 ∧ l3 = putText l2 pp.off.toNat pp.text q ∧ (∀ j,pp.off.toNat + q ≤ j → j < 33 → l3[j]? = some (-1))) x.1 x.2}) (fun x => (fun (q : Nat) (l3 : List Int) => (⟨[(1,.v (.int .i64 seq)),(2,.v (.string text)),(3,.v (.bool fin)),(4,.p 0 0),(8,.p 1 0),(9,.p 2 0),(10,.v (.int .i64 (W : Int))),(11,.v (.pointer (some ⟨gd,0,none⟩))),(12,.v (.pointer (some ⟨gh,0,none⟩))),(13,.v (.func (.func 42) #[] #[.pointer (some ⟨gh,0,none⟩),.pointer (some ⟨gd,0,none⟩)])),(15,.p 3 0),(42,.v (.slice Arh r.held.length Crh)),(43,.v (.int .i64 ((r.held.length : Nat) : Int))),(44,.v (.int .i64 (i : Int))),(50,.v (.int .i64 (pp.text.size : Int))),(51,.v (.int .i64 (q : Int)))],[⟨28,rcvL r (.slice Arh r.held.length Crh)⟩,⟨28,rcvZ⟩,⟨28,rcvL r (.slice v1a r.held.length v1c)⟩,⟨81,pceL pp⟩],[],[arrF w.heap.size gh gd g5 g4 78 59 4 5 W l3,ownF w.heap.size (.slice v1a r.held.length v1c) 2 (r.held.map pceCells),slF (.slice Arh r.held.length Crh) 2 (r.held.map pceCells)]⟩ : St)) x.1.1 x.1.2) (fun x => (fun (q : Nat) (l3 : List Int) => pp.text.size - q) x.1.1 x.1.2) ⟨(0,l2),⟨Nat.zero_le _,hl2,rfl,(fun j h1 h2 => hfr j (by omega) h2)⟩⟩ ((wk_pick [0,1,2] [arrF w.heap.size gh gd g5 g4 78 59 4 5 W l2,ownF w.heap.size (.slice v1a r.held.length v1c) 2 (r.held.map pceCells),slF (.slice Arh r.held.length Crh) 2 (r.held.map pceCells)] (by kernel_rfl) (by kernel_rfl)).trans <| kF 4 0 [1,2,3,4,8,9,10,11,12,13,15,42,43,44,50,51]) ?_
 rintro ⟨⟨q,l3⟩,hq,hl3,H3,hfr3⟩
 try dsimp only
 try dsimp only at hq hl3 H3 hfr3
 refine kQ ?_
 refine kED [1,2,3,4,8,9,10,11,12,13,15,42,43,44,50,51,52] [(52,.v (.bool (decide ((q : Int) < (pp.text.size : Int)))))] ?_
 refine kS ?_
 refine kC (decide ((q : Int) < (pp.text.size : Int))) (fun h7 => ?_) (fun h7 => ?_)
 have h7p := of_decide_eq_true h7
 have hlt3 : q < pp.text.size := by simpa using h7
 have hbr := byteAt_rng pp.text q
 have hfz := hfr3 (pp.off.toNat + q) (Nat.le_refl _) (by omega)
 refine kK ?_
 refine kS ?_
 refine xw_block ?_
 refine kQ ?_
 refine kED [1,2,3,4,8,9,10,11,12,13,15,16,42,43,44,50,51] [(16,.v (.int .i64 (q : Int)))] ?_
 refine xe_region0 [] (by kernel_rfl) (fun ρ σ => ?_)
 refine kTS [0,1,2,3,4,5,6,7] [61,60,58,54,1,2,3,4,8,9,10,11,12,13,15,42,43,44,50,51] 2 [(61,.v (.int .i64 (q : Int))),(60,.v (.string pp.text)),(58,.v (.int .i64 (IntKind.i64.wrap (pp.off + (q : Int))))),(54,.v (.func (.func 42) #[] #[.pointer (some ⟨gh,0,none⟩),.pointer (some ⟨gd,0,none⟩)])),(1,.v (.int .i64 seq)),(2,.v (.string text)),(3,.v (.bool fin)),(4,.p 0 0),(8,.p 1 0),(9,.p 2 0),(10,.v (.int .i64 (W : Int))),(11,.v (.pointer (some ⟨gd,0,none⟩))),(12,.v (.pointer (some ⟨gh,0,none⟩))),(13,.v (.func (.func 42) #[] #[.pointer (some ⟨gh,0,none⟩),.pointer (some ⟨gd,0,none⟩)])),(15,.p 3 0),(42,.v (.slice Arh r.held.length Crh)),(43,.v (.int .i64 ((r.held.length : Nat) : Int))),(44,.v (.int .i64 (i : Int))),(50,.v (.int .i64 (pp.text.size : Int))),(51,.v (.int .i64 (q : Int)))] ?_
 refine xe_eqS (t := [(61,.v (.int .i64 (q : Int))),(60,.v (.string pp.text)),(58,.v (.int .i64 (IntKind.i64.wrap (pp.off + (q : Int))))),(54,.v (.func (.func 42) #[] #[.pointer (some ⟨gh,0,none⟩),.pointer (some ⟨gd,0,none⟩)])),(1,.v (.int .i64 seq)),(2,.v (.string text)),(3,.v (.bool fin)),(4,.p 0 0),(8,.p 1 0),(9,.p 2 0),(10,.v (.int .i64 (W : Int))),(11,.v (.pointer (some ⟨gd,0,none⟩))),(12,.v (.pointer (some ⟨gh,0,none⟩))),(13,.v (.func (.func 42) #[] #[.pointer (some ⟨gh,0,none⟩),.pointer (some ⟨gd,0,none⟩)])),(15,.p 3 0),(42,.v (.slice Arh r.held.length Crh)),(43,.v (.int .i64 ((r.held.length : Nat) : Int))),(44,.v (.int .i64 (i : Int))),(50,.v (.int .i64 (pp.text.size : Int))),(51,.v (.int .i64 (q : Int)))]) (t' := [(61,.v (.int .i64 (q : Int))),(60,.v (.string pp.text)),(58,.v (.int .i64 ((pp.off.toNat + q : Nat) : Int))),(54,.v (.func (.func 42) #[] #[.pointer (some ⟨gh,0,none⟩),.pointer (some ⟨gd,0,none⟩)])),(1,.v (.int .i64 seq)),(2,.v (.string text)),(3,.v (.bool fin)),(4,.p 0 0),(8,.p 1 0),(9,.p 2 0),(10,.v (.int .i64 (W : Int))),(11,.v (.pointer (some ⟨gd,0,none⟩))),(12,.v (.pointer (some ⟨gh,0,none⟩))),(13,.v (.func (.func 42) #[] #[.pointer (some ⟨gh,0,none⟩),.pointer (some ⟨gd,0,none⟩)])),(15,.p 3 0),(42,.v (.slice Arh r.held.length Crh)),(43,.v (.int .i64 ((r.held.length : Nat) : Int))),(44,.v (.int .i64 (i : Int))),(50,.v (.int .i64 (pp.text.size : Int))),(51,.v (.int .i64 (q : Int)))]) (by rw [show (IntKind.i64.wrap (pp.off + (q : Int))) = ((pp.off.toNat + q : Nat) : Int) from by rw [wrap_id (by omega) (by omega)]; omega]) ?_
 refine kX 8 (.int .u8 (byteAt pp.text q)) rfl (fun _ _ ww hA => act_tix (kd := .i64) (t := pp.text) q hA rfl rfl (by kernel_rfl) (by kernel_rfl) hlt3 ww) ?_
 refine kA [9] ?_
 refine xs_callWC 9 42 [.int .i64 ((pp.off.toNat + q : Nat) : Int),.int .u8 (byteAt pp.text q),.pointer (some ⟨gh,0,none⟩),.pointer (some ⟨gd,0,none⟩)] (some 63) 0 (arrF w.heap.size gh gd g5 g4 78 59 4 5 W l3) rfl (by kernel_rfl) rfl (by kernel_rfl) rfl rfl (fun ww b h hb => arrF_lo h hb) (by kernel_rfl) (under_t (under_t (under_t (under_t under_nil)))) rfl (xcm_arr fun ww hw hf => arrStore_c w.heap.size gh gd g5 g4 W (pp.off.toNat + q) l3 (byteAt pp.text q) ww hw (hf (arrF w.heap.size gh gd g5 g4 78 59 4 5 W l3) (by simp)) (by omega) (by omega) hbr) ?_
 intro _
 refine kZ ?_
 refine kG ?_
 refine kRS 2 [1,2,3,4,8,9,10,11,12,13,15,42,43,44,50,51] [(1,.v (.int .i64 seq)),(2,.v (.string text)),(3,.v (.bool fin)),(4,.p 0 0),(8,.p 1 0),(9,.p 2 0),(10,.v (.int .i64 (W : Int))),(11,.v (.pointer (some ⟨gd,0,none⟩))),(12,.v (.pointer (some ⟨gh,0,none⟩))),(13,.v (.func (.func 42) #[] #[.pointer (some ⟨gh,0,none⟩),.pointer (some ⟨gd,0,none⟩)])),(15,.p 3 0),(42,.v (.slice Arh r.held.length Crh)),(43,.v (.int .i64 ((r.held.length : Nat) : Int))),(44,.v (.int .i64 (i : Int))),(50,.v (.int .i64 (pp.text.size : Int))),(51,.v (.int .i64 (IntKind.i64.wrap ((q : Int) + 1))))] ?_
 refine xl_eqS (t' := [(1,.v (.int .i64 seq)),(2,.v (.string text)),(3,.v (.bool fin)),(4,.p 0 0),(8,.p 1 0),(9,.p 2 0),(10,.v (.int .i64 (W : Int))),(11,.v (.pointer (some ⟨gd,0,none⟩))),(12,.v (.pointer (some ⟨gh,0,none⟩))),(13,.v (.func (.func 42) #[] #[.pointer (some ⟨gh,0,none⟩),.pointer (some ⟨gd,0,none⟩)])),(15,.p 3 0),(42,.v (.slice Arh r.held.length Crh)),(43,.v (.int .i64 ((r.held.length : Nat) : Int))),(44,.v (.int .i64 (i : Int))),(50,.v (.int .i64 (pp.text.size : Int))),(51,.v (.int .i64 ((q : Int) + 1)))]) (by rw [show (IntKind.i64.wrap ((q : Int) + 1)) = ((q : Int) + 1) from wrap_id (by omega) (by omega)]) ?_
 refine kED [1,2,3,4,8,9,10,11,12,13,15,42,43,44,50,51] [] ?_
 exact ⟨⟨(q + 1,(stOne l3 (pp.off.toNat + q) (byteAt pp.text q))),⟨hlt3,(by rw [stOne_len]; exact hl3),(by rw [stOne_free hfz (by decide),H3]; rfl),(fun j h1 h2 => by rw [stOne_far (by omega)]; exact hfr3 j (by omega) h2)⟩⟩,kF 4 0 [1,2,3,4,8,9,10,11,12,13,15,42,43,44,50,51],by show (fun (q : Nat) (l3 : List Int) => pp.text.size - q) (q + 1) (stOne l3 (pp.off.toNat + q) (byteAt pp.text q)) < pp.text.size - q; (dsimp only; omega)⟩
 have h7p := of_decide_eq_false h7
 have hq3 : q = pp.text.size := by simp at h7; omega
 refine xw_exit ?_
 refine kG ?_
 refine kRS 2 [1,2,3,4,8,9,10,11,12,13,42,43,44] [(1,.v (.int .i64 seq)),(2,.v (.string text)),(3,.v (.bool fin)),(4,.p 0 0),(8,.p 1 0),(9,.p 2 0),(10,.v (.int .i64 (W : Int))),(11,.v (.pointer (some ⟨gd,0,none⟩))),(12,.v (.pointer (some ⟨gh,0,none⟩))),(13,.v (.func (.func 42) #[] #[.pointer (some ⟨gh,0,none⟩),.pointer (some ⟨gd,0,none⟩)])),(42,.v (.slice Arh r.held.length Crh)),(43,.v (.int .i64 ((r.held.length : Nat) : Int))),(44,.v (.int .i64 (IntKind.i64.wrap ((i : Int) + 1))))] ?_
 refine xl_eqS (t' := [(1,.v (.int .i64 seq)),(2,.v (.string text)),(3,.v (.bool fin)),(4,.p 0 0),(8,.p 1 0),(9,.p 2 0),(10,.v (.int .i64 (W : Int))),(11,.v (.pointer (some ⟨gd,0,none⟩))),(12,.v (.pointer (some ⟨gh,0,none⟩))),(13,.v (.func (.func 42) #[] #[.pointer (some ⟨gh,0,none⟩),.pointer (some ⟨gd,0,none⟩)])),(42,.v (.slice Arh r.held.length Crh)),(43,.v (.int .i64 ((r.held.length : Nat) : Int))),(44,.v (.int .i64 ((i : Int) + 1)))]) (by rw [show (IntKind.i64.wrap ((i : Int) + 1)) = ((i : Int) + 1) from wrap_id (by omega) (by omega)]) ?_
 refine kED [1,2,3,4,8,9,10,11,12,13,42,43,44] [] ?_
 exact ⟨⟨(i + 1,l3,(pp.off + (pp.text.size : Int))),⟨hlt2,hl3,(by rw [H2,drop_cons_of hx,putHeld,← hq3,← H3]),hst3,(by dsimp only; omega),hpW,(fun j h1 h2 => hfr3 j (by dsimp only at h1; omega) h2)⟩⟩,kF 3 0 [1,2,3,4,8,9,10,11,12,13,42,43,44],by show (fun (i : Nat) (l2 : List Int) (e : Int) => r.held.length - i) (i + 1) l3 (pp.off + (pp.text.size : Int)) < r.held.length - i; (dsimp only; omega)⟩
 have h6p := of_decide_eq_false h6
 have hi2 : i = r.held.length := by simp at h6; omega
 rw [hi2,List.drop_length] at H2; simp only [putHeld] at H2
 refine xw_exit ?_
 refine kS ?_
 refine kQ ?_
 refine kED [1,2,3,4,8,9,10,11,12,13,67,68] [(67,.v (.int .i64 (text.size : Int))),(68,.v (.int .i64 0))] ?_
 refine xw_block ?_
 refine xw_loopW (α := {x : Nat × List Int // (fun (i : Nat) (sl : List Int) => i ≤ text.size ∧ sl.length = 33 ∧ sl = textN r seq text (slotsOf r) i ∧ (∀ j,W ≤ j → j < 33 → sl[j]? = some (-1))) x.1 x.2}) (fun x => (fun (i : Nat) (sl : List Int) => (⟨[(1,.v (.int .i64 seq)),(2,.v (.string text)),(3,.v (.bool fin)),(4,.p 0 0),(8,.p 1 0),(9,.p 2 0),(10,.v (.int .i64 (W : Int))),(11,.v (.pointer (some ⟨gd,0,none⟩))),(12,.v (.pointer (some ⟨gh,0,none⟩))),(13,.v (.func (.func 42) #[] #[.pointer (some ⟨gh,0,none⟩),.pointer (some ⟨gd,0,none⟩)])),(67,.v (.int .i64 (text.size : Int))),(68,.v (.int .i64 (i : Int)))],[⟨28,rcvL r (.slice Arh r.held.length Crh)⟩,⟨28,rcvZ⟩,⟨28,rcvL r (.slice v1a r.held.length v1c)⟩],[],[arrF w.heap.size gh gd g5 g4 78 59 4 5 W sl,ownF w.heap.size (.slice v1a r.held.length v1c) 2 (r.held.map pceCells),slF (.slice Arh r.held.length Crh) 2 (r.held.map pceCells)]⟩ : St)) x.1.1 x.1.2) (fun x => (fun (i : Nat) (sl : List Int) => text.size - i) x.1.1 x.1.2) ⟨(0,l2),⟨Nat.zero_le _,hl2,H2.symm,(fun j h1 h2 => hfr j (by omega) h2)⟩⟩ ((wk_pick [0,1,2] [arrF w.heap.size gh gd g5 g4 78 59 4 5 W l2,ownF w.heap.size (.slice v1a r.held.length v1c) 2 (r.held.map pceCells),slF (.slice Arh r.held.length Crh) 2 (r.held.map pceCells)] (by kernel_rfl) (by kernel_rfl)).trans <| kF 3 0 [1,2,3,4,8,9,10,11,12,13,67,68]) ?_
 rintro ⟨⟨i,sl⟩,hi,hl,HS,hbe⟩
 try dsimp only
 try dsimp only at hi hl HS hbe
 refine kQ ?_
 refine kED [1,2,3,4,8,9,10,11,12,13,67,68,69] [(69,.v (.bool (decide ((i : Int) < (text.size : Int)))))] ?_
 refine kS ?_
 refine kC (decide ((i : Int) < (text.size : Int))) (fun h8 => ?_) (fun h8 => ?_)
 have h8p := of_decide_eq_true h8
 have hlti : i < text.size := by simpa using h8
 have hbr := byteAt_rng text i
 have hsq := seqAdd_in seq (i : Int)
 refine kK ?_
 refine kS ?_
 refine xw_block ?_
 refine kQ ?_
 refine kED [1,2,3,4,8,9,10,11,12,13,17,67,68] [(17,.v (.int .i64 (i : Int)))] ?_
 refine kS ?_
 refine xe_region0 [] (by kernel_rfl) (fun ρ σ => ?_)
 refine kTS [0,1,3,4] [75,72,71,1,2,3,4,8,9,10,11,12,13,17,67,68] 3 [(75,.v (.int .i64 r.next)),(72,.v (.int .i64 (i : Int))),(71,.v (.int .i64 seq)),(1,.v (.int .i64 seq)),(2,.v (.string text)),(3,.v (.bool fin)),(4,.p 0 0),(8,.p 1 0),(9,.p 2 0),(10,.v (.int .i64 (W : Int))),(11,.v (.pointer (some ⟨gd,0,none⟩))),(12,.v (.pointer (some ⟨gh,0,none⟩))),(13,.v (.func (.func 42) #[] #[.pointer (some ⟨gh,0,none⟩),.pointer (some ⟨gd,0,none⟩)])),(17,.v (.int .i64 (i : Int))),(67,.v (.int .i64 (text.size : Int))),(68,.v (.int .i64 (i : Int)))] ?_
 refine kA [2] ?_
 refine kSC 2 26 [.int .i64 seq,.int .i64 (i : Int)] (some 73) rfl (xc_s fun ww hf => iSeqAdd_c seq (i : Int) ww ) ?_
 intro _
 refine kA [5] ?_
 refine kSC 5 43 [.int .i64 (seqAdd seq (i : Int)),.int .i64 r.next] (some 76) rfl (xc_s fun ww hf => ahead_c (seqAdd seq (i : Int)) r.next ww ) ?_
 intro _
 refine xe_eqS (t := [(76,.v (.int .i64 (((seqAdd seq (i : Int)) - r.next) % 4294967296))),(73,.v (.int .i64 (seqAdd seq (i : Int)))),(75,.v (.int .i64 r.next)),(72,.v (.int .i64 (i : Int))),(71,.v (.int .i64 seq)),(1,.v (.int .i64 seq)),(2,.v (.string text)),(3,.v (.bool fin)),(4,.p 0 0),(8,.p 1 0),(9,.p 2 0),(10,.v (.int .i64 (W : Int))),(11,.v (.pointer (some ⟨gd,0,none⟩))),(12,.v (.pointer (some ⟨gh,0,none⟩))),(13,.v (.func (.func 42) #[] #[.pointer (some ⟨gh,0,none⟩),.pointer (some ⟨gd,0,none⟩)])),(17,.v (.int .i64 (i : Int))),(67,.v (.int .i64 (text.size : Int))),(68,.v (.int .i64 (i : Int)))]) (t' := [(76,.v (.int .i64 ((offN r seq i : Nat) : Int))),(73,.v (.int .i64 (seqAdd seq (i : Int)))),(75,.v (.int .i64 r.next)),(72,.v (.int .i64 (i : Int))),(71,.v (.int .i64 seq)),(1,.v (.int .i64 seq)),(2,.v (.string text)),(3,.v (.bool fin)),(4,.p 0 0),(8,.p 1 0),(9,.p 2 0),(10,.v (.int .i64 (W : Int))),(11,.v (.pointer (some ⟨gd,0,none⟩))),(12,.v (.pointer (some ⟨gh,0,none⟩))),(13,.v (.func (.func 42) #[] #[.pointer (some ⟨gh,0,none⟩),.pointer (some ⟨gd,0,none⟩)])),(17,.v (.int .i64 (i : Int))),(67,.v (.int .i64 (text.size : Int))),(68,.v (.int .i64 (i : Int)))]) (by rw [show (((seqAdd seq (i : Int)) - r.next) % 4294967296) = ((offN r seq i : Nat) : Int) from offN_eq r seq i]) ?_
 refine kTS [6] [18,1,2,3,4,8,9,10,11,12,13,17,67,68] 0 [(18,.v (.int .i64 ((offN r seq i : Nat) : Int))),(1,.v (.int .i64 seq)),(2,.v (.string text)),(3,.v (.bool fin)),(4,.p 0 0),(8,.p 1 0),(9,.p 2 0),(10,.v (.int .i64 (W : Int))),(11,.v (.pointer (some ⟨gd,0,none⟩))),(12,.v (.pointer (some ⟨gh,0,none⟩))),(13,.v (.func (.func 42) #[] #[.pointer (some ⟨gh,0,none⟩),.pointer (some ⟨gd,0,none⟩)])),(17,.v (.int .i64 (i : Int))),(67,.v (.int .i64 (text.size : Int))),(68,.v (.int .i64 (i : Int)))] ?_
 refine kZ ?_
 refine kQ ?_
 refine kRD 4 [1,2,3,4,8,9,10,11,12,13,17,18,67,68,80] [(80,.v (.bool (decide (((offN r seq i : Nat) : Int) < (W : Int)))))] ?_
 refine kP 80 (decide (((offN r seq i : Nat) : Int) < (W : Int))) (fun h9 => ?_) (fun h9 => ?_)
 have h9p := of_decide_eq_true h9
 refine kRD 4 [1,2,3,4,8,9,10,11,12,13,17,18,67,68,80,84] [(80,.v (.bool true)),(84,.v (.bool (r.fin == (-1))))] ?_
 refine kP 84 (r.fin == (-1)) (fun h10 => ?_) (fun h10 => ?_)
 have h10p := eqT h10
 refine kED [1,2,3,4,8,9,10,11,12,13,17,18,67,68,90] [(90,.v (.bool true))] ?_
 refine kT ?_
 refine kG ?_
 refine kOD 4 [1,2,3,4,8,9,10,11,12,13,67,68,91,92,93,94] [(91,.v (.func (.func 42) #[] #[.pointer (some ⟨gh,0,none⟩),.pointer (some ⟨gd,0,none⟩)])),(92,.v (.int .i64 ((offN r seq i : Nat) : Int))),(93,.v (.string text)),(94,.v (.int .i64 (i : Int)))] (.int .u8 (byteAt text i)) rfl (fun _ _ _ ww hr => act_tix (kd := .i64) (t := text) i hr.1 rfl rfl (by kernel_rfl) (by kernel_rfl) hlti ww) ?_
 refine xl_callWC 0 [1,2,3,4,8,9,10,11,12,13,67,68,91,92,95] ⟨[(1,.v (.int .i64 seq)),(2,.v (.string text)),(3,.v (.bool fin)),(4,.p 0 0),(8,.p 1 0),(9,.p 2 0),(10,.v (.int .i64 (W : Int))),(11,.v (.pointer (some ⟨gd,0,none⟩))),(12,.v (.pointer (some ⟨gh,0,none⟩))),(13,.v (.func (.func 42) #[] #[.pointer (some ⟨gh,0,none⟩),.pointer (some ⟨gd,0,none⟩)])),(67,.v (.int .i64 (text.size : Int))),(68,.v (.int .i64 (i : Int))),(91,.v (.func (.func 42) #[] #[.pointer (some ⟨gh,0,none⟩),.pointer (some ⟨gd,0,none⟩)])),(92,.v (.int .i64 ((offN r seq i : Nat) : Int))),(95,.v (.int .u8 (byteAt text i)))],[⟨28,rcvL r (.slice Arh r.held.length Crh)⟩,⟨28,rcvZ⟩,⟨28,rcvL r (.slice v1a r.held.length v1c)⟩],[],[arrF w.heap.size gh gd g5 g4 78 59 4 5 W sl,ownF w.heap.size (.slice v1a r.held.length v1c) 2 (r.held.map pceCells),slF (.slice Arh r.held.length Crh) 2 (r.held.map pceCells)]⟩ 42 [.int .i64 ((offN r seq i : Nat) : Int),.int .u8 (byteAt text i),.pointer (some ⟨gh,0,none⟩),.pointer (some ⟨gd,0,none⟩)] (some 96) 0 (arrF w.heap.size gh gd g5 g4 78 59 4 5 W sl) (by kernel_rfl) rfl (by kernel_rfl) rfl (by kernel_rfl) rfl rfl (fun ww b h hb => arrF_lo h hb) (by kernel_rfl) (xcm_arr fun ww hw hf => arrStore_c w.heap.size gh gd g5 g4 W (offN r seq i) sl (byteAt text i) ww hw (hf (arrF w.heap.size gh gd g5 g4 78 59 4 5 W sl) (by simp)) (by omega) (by omega) hbr) ?_
 intro _
 refine kED [1,2,3,4,8,9,10,11,12,13,67,68] [] ?_
 refine kG ?_
 refine kRS 2 [1,2,3,4,8,9,10,11,12,13,67,68] [(1,.v (.int .i64 seq)),(2,.v (.string text)),(3,.v (.bool fin)),(4,.p 0 0),(8,.p 1 0),(9,.p 2 0),(10,.v (.int .i64 (W : Int))),(11,.v (.pointer (some ⟨gd,0,none⟩))),(12,.v (.pointer (some ⟨gh,0,none⟩))),(13,.v (.func (.func 42) #[] #[.pointer (some ⟨gh,0,none⟩),.pointer (some ⟨gd,0,none⟩)])),(67,.v (.int .i64 (text.size : Int))),(68,.v (.int .i64 (IntKind.i64.wrap ((i : Int) + 1))))] ?_
 refine xl_eqS (t' := [(1,.v (.int .i64 seq)),(2,.v (.string text)),(3,.v (.bool fin)),(4,.p 0 0),(8,.p 1 0),(9,.p 2 0),(10,.v (.int .i64 (W : Int))),(11,.v (.pointer (some ⟨gd,0,none⟩))),(12,.v (.pointer (some ⟨gh,0,none⟩))),(13,.v (.func (.func 42) #[] #[.pointer (some ⟨gh,0,none⟩),.pointer (some ⟨gd,0,none⟩)])),(67,.v (.int .i64 (text.size : Int))),(68,.v (.int .i64 ((i : Int) + 1)))]) (by rw [show (IntKind.i64.wrap ((i : Int) + 1)) = ((i : Int) + 1) from wrap_id (by omega) (by omega)]) ?_
 refine kED [1,2,3,4,8,9,10,11,12,13,67,68] [] ?_
 exact ⟨⟨(i + 1,(stOne sl (offN r seq i) (byteAt text i))),⟨hlti,(by rw [stOne_len]; exact hl),(by rw [textN,← HS,text_yes (by rw [hW]; omega) (by omega)]),(fun j h1 h2 => by rw [stOne_far (by omega)]; exact hbe j h1 h2)⟩⟩,kF 3 0 [1,2,3,4,8,9,10,11,12,13,67,68],by show (fun (i : Nat) (sl : List Int) => text.size - i) (i + 1) (stOne sl (offN r seq i) (byteAt text i)) < text.size - i; (dsimp only; omega)⟩
 have h10p := eqF h10
 refine kED [1,2,3,4,8,9,10,11,12,13,17,18,67,68,90] [(90,.v (.bool (decide (((offN r seq i : Nat) : Int) < r.fin))))] ?_
 refine kC (decide (((offN r seq i : Nat) : Int) < r.fin)) (fun h11 => ?_) (fun h11 => ?_)
 have h11p := of_decide_eq_true h11
 refine kG ?_
 refine kOD 4 [1,2,3,4,8,9,10,11,12,13,67,68,91,92,93,94] [(91,.v (.func (.func 42) #[] #[.pointer (some ⟨gh,0,none⟩),.pointer (some ⟨gd,0,none⟩)])),(92,.v (.int .i64 ((offN r seq i : Nat) : Int))),(93,.v (.string text)),(94,.v (.int .i64 (i : Int)))] (.int .u8 (byteAt text i)) rfl (fun _ _ _ ww hr => act_tix (kd := .i64) (t := text) i hr.1 rfl rfl (by kernel_rfl) (by kernel_rfl) hlti ww) ?_
 refine xl_callWC 0 [1,2,3,4,8,9,10,11,12,13,67,68,91,92,95] ⟨[(1,.v (.int .i64 seq)),(2,.v (.string text)),(3,.v (.bool fin)),(4,.p 0 0),(8,.p 1 0),(9,.p 2 0),(10,.v (.int .i64 (W : Int))),(11,.v (.pointer (some ⟨gd,0,none⟩))),(12,.v (.pointer (some ⟨gh,0,none⟩))),(13,.v (.func (.func 42) #[] #[.pointer (some ⟨gh,0,none⟩),.pointer (some ⟨gd,0,none⟩)])),(67,.v (.int .i64 (text.size : Int))),(68,.v (.int .i64 (i : Int))),(91,.v (.func (.func 42) #[] #[.pointer (some ⟨gh,0,none⟩),.pointer (some ⟨gd,0,none⟩)])),(92,.v (.int .i64 ((offN r seq i : Nat) : Int))),(95,.v (.int .u8 (byteAt text i)))],[⟨28,rcvL r (.slice Arh r.held.length Crh)⟩,⟨28,rcvZ⟩,⟨28,rcvL r (.slice v1a r.held.length v1c)⟩],[],[arrF w.heap.size gh gd g5 g4 78 59 4 5 W sl,ownF w.heap.size (.slice v1a r.held.length v1c) 2 (r.held.map pceCells),slF (.slice Arh r.held.length Crh) 2 (r.held.map pceCells)]⟩ 42 [.int .i64 ((offN r seq i : Nat) : Int),.int .u8 (byteAt text i),.pointer (some ⟨gh,0,none⟩),.pointer (some ⟨gd,0,none⟩)] (some 96) 0 (arrF w.heap.size gh gd g5 g4 78 59 4 5 W sl) (by kernel_rfl) rfl (by kernel_rfl) rfl (by kernel_rfl) rfl rfl (fun ww b h hb => arrF_lo h hb) (by kernel_rfl) (xcm_arr fun ww hw hf => arrStore_c w.heap.size gh gd g5 g4 W (offN r seq i) sl (byteAt text i) ww hw (hf (arrF w.heap.size gh gd g5 g4 78 59 4 5 W sl) (by simp)) (by omega) (by omega) hbr) ?_
 intro _
 refine kED [1,2,3,4,8,9,10,11,12,13,67,68] [] ?_
 refine kG ?_
 refine kRS 2 [1,2,3,4,8,9,10,11,12,13,67,68] [(1,.v (.int .i64 seq)),(2,.v (.string text)),(3,.v (.bool fin)),(4,.p 0 0),(8,.p 1 0),(9,.p 2 0),(10,.v (.int .i64 (W : Int))),(11,.v (.pointer (some ⟨gd,0,none⟩))),(12,.v (.pointer (some ⟨gh,0,none⟩))),(13,.v (.func (.func 42) #[] #[.pointer (some ⟨gh,0,none⟩),.pointer (some ⟨gd,0,none⟩)])),(67,.v (.int .i64 (text.size : Int))),(68,.v (.int .i64 (IntKind.i64.wrap ((i : Int) + 1))))] ?_
 refine xl_eqS (t' := [(1,.v (.int .i64 seq)),(2,.v (.string text)),(3,.v (.bool fin)),(4,.p 0 0),(8,.p 1 0),(9,.p 2 0),(10,.v (.int .i64 (W : Int))),(11,.v (.pointer (some ⟨gd,0,none⟩))),(12,.v (.pointer (some ⟨gh,0,none⟩))),(13,.v (.func (.func 42) #[] #[.pointer (some ⟨gh,0,none⟩),.pointer (some ⟨gd,0,none⟩)])),(67,.v (.int .i64 (text.size : Int))),(68,.v (.int .i64 ((i : Int) + 1)))]) (by rw [show (IntKind.i64.wrap ((i : Int) + 1)) = ((i : Int) + 1) from wrap_id (by omega) (by omega)]) ?_
 refine kED [1,2,3,4,8,9,10,11,12,13,67,68] [] ?_
 exact ⟨⟨(i + 1,(stOne sl (offN r seq i) (byteAt text i))),⟨hlti,(by rw [stOne_len]; exact hl),(by rw [textN,← HS,text_yes (by rw [hW]; omega) (by omega)]),(fun j h1 h2 => by rw [stOne_far (by omega)]; exact hbe j h1 h2)⟩⟩,kF 3 0 [1,2,3,4,8,9,10,11,12,13,67,68],by show (fun (i : Nat) (sl : List Int) => text.size - i) (i + 1) (stOne sl (offN r seq i) (byteAt text i)) < text.size - i; (dsimp only; omega)⟩
 have h11p := of_decide_eq_false h11
 refine kK ?_
 refine kG ?_
 refine kRS 2 [1,2,3,4,8,9,10,11,12,13,67,68] [(1,.v (.int .i64 seq)),(2,.v (.string text)),(3,.v (.bool fin)),(4,.p 0 0),(8,.p 1 0),(9,.p 2 0),(10,.v (.int .i64 (W : Int))),(11,.v (.pointer (some ⟨gd,0,none⟩))),(12,.v (.pointer (some ⟨gh,0,none⟩))),(13,.v (.func (.func 42) #[] #[.pointer (some ⟨gh,0,none⟩),.pointer (some ⟨gd,0,none⟩)])),(67,.v (.int .i64 (text.size : Int))),(68,.v (.int .i64 (IntKind.i64.wrap ((i : Int) + 1))))] ?_
 refine xl_eqS (t' := [(1,.v (.int .i64 seq)),(2,.v (.string text)),(3,.v (.bool fin)),(4,.p 0 0),(8,.p 1 0),(9,.p 2 0),(10,.v (.int .i64 (W : Int))),(11,.v (.pointer (some ⟨gd,0,none⟩))),(12,.v (.pointer (some ⟨gh,0,none⟩))),(13,.v (.func (.func 42) #[] #[.pointer (some ⟨gh,0,none⟩),.pointer (some ⟨gd,0,none⟩)])),(67,.v (.int .i64 (text.size : Int))),(68,.v (.int .i64 ((i : Int) + 1)))]) (by rw [show (IntKind.i64.wrap ((i : Int) + 1)) = ((i : Int) + 1) from wrap_id (by omega) (by omega)]) ?_
 refine kED [1,2,3,4,8,9,10,11,12,13,67,68] [] ?_
 exact ⟨⟨(i + 1,sl),⟨hlti,hl,(by rw [textN,← HS,text_no (by rw [hW]; omega)]),hbe⟩⟩,kF 3 0 [1,2,3,4,8,9,10,11,12,13,67,68],by show (fun (i : Nat) (sl : List Int) => text.size - i) (i + 1) sl < text.size - i; (dsimp only; omega)⟩
 have h9p := of_decide_eq_false h9
 refine kED [1,2,3,4,8,9,10,11,12,13,17,18,67,68,90] [(90,.v (.bool false))] ?_
 refine kN ?_
 refine kK ?_
 refine kG ?_
 refine kRS 2 [1,2,3,4,8,9,10,11,12,13,67,68] [(1,.v (.int .i64 seq)),(2,.v (.string text)),(3,.v (.bool fin)),(4,.p 0 0),(8,.p 1 0),(9,.p 2 0),(10,.v (.int .i64 (W : Int))),(11,.v (.pointer (some ⟨gd,0,none⟩))),(12,.v (.pointer (some ⟨gh,0,none⟩))),(13,.v (.func (.func 42) #[] #[.pointer (some ⟨gh,0,none⟩),.pointer (some ⟨gd,0,none⟩)])),(67,.v (.int .i64 (text.size : Int))),(68,.v (.int .i64 (IntKind.i64.wrap ((i : Int) + 1))))] ?_
 refine xl_eqS (t' := [(1,.v (.int .i64 seq)),(2,.v (.string text)),(3,.v (.bool fin)),(4,.p 0 0),(8,.p 1 0),(9,.p 2 0),(10,.v (.int .i64 (W : Int))),(11,.v (.pointer (some ⟨gd,0,none⟩))),(12,.v (.pointer (some ⟨gh,0,none⟩))),(13,.v (.func (.func 42) #[] #[.pointer (some ⟨gh,0,none⟩),.pointer (some ⟨gd,0,none⟩)])),(67,.v (.int .i64 (text.size : Int))),(68,.v (.int .i64 ((i : Int) + 1)))]) (by rw [show (IntKind.i64.wrap ((i : Int) + 1)) = ((i : Int) + 1) from wrap_id (by omega) (by omega)]) ?_
 refine kED [1,2,3,4,8,9,10,11,12,13,67,68] [] ?_
 exact ⟨⟨(i + 1,sl),⟨hlti,hl,(by rw [textN,← HS,text_no (by rw [hW]; omega)]),hbe⟩⟩,kF 3 0 [1,2,3,4,8,9,10,11,12,13,67,68],by show (fun (i : Nat) (sl : List Int) => text.size - i) (i + 1) sl < text.size - i; (dsimp only; omega)⟩
 have h8p := of_decide_eq_false h8
 have hti : i = text.size := by simp at h8; omega
 subst hti
 have hall : sl = allIn r seq text := HS
 obtain ⟨E,hE⟩ : ∃ E : Nat,(seqAdd seq (text.size : Int) - r.next) % 4294967296 = ((E : Nat) : Int) ∧ offN r seq text.size = E := ⟨_,offN_eq r seq text.size,rfl⟩
 refine xw_exit ?_
 refine kS ?_
 refine xw_wk (wk_pick [0,1,2] [arrF w.heap.size gh gd g5 g4 78 59 4 5 W sl,ownF w.heap.size (.slice v1a r.held.length v1c) 2 (r.held.map pceCells),slF (.slice Arh r.held.length Crh) 2 (r.held.map pceCells)] (by kernel_rfl) (by kernel_rfl)) ?_
 refine xw_turnF (fs' := [cellF w.heap.size gh 78 [.slice (some ⟨g5,0,none⟩) W W],cellF w.heap.size gd 59 [.slice (some ⟨g4,0,none⟩) W W],rowF w.heap.size 4 1 (.slice (some ⟨g5,0,none⟩) W W) ((hvOf W sl).map boolRow),rowF w.heap.size 5 1 (.slice (some ⟨g4,0,none⟩) W W) ((dtOf W sl).map byteRow),ownF w.heap.size (.slice v1a r.held.length v1c) 2 (r.held.map pceCells),slF (.slice Arh r.held.length Crh) 2 (r.held.map pceCells)]) (fun ρ σ w' h => all_out (gs := [cellF w.heap.size gh 78 [.slice (some ⟨g5,0,none⟩) W W],cellF w.heap.size gd 59 [.slice (some ⟨g4,0,none⟩) W W],rowF w.heap.size 4 1 (.slice (some ⟨g5,0,none⟩) W W) ((hvOf W sl).map boolRow),rowF w.heap.size 5 1 (.slice (some ⟨g4,0,none⟩) W W) ((dtOf W sl).map byteRow)]) (hs := [ownF w.heap.size (.slice v1a r.held.length v1c) 2 (r.held.map pceCells),slF (.slice Arh r.held.length Crh) 2 (r.held.map pceCells)]) ρ σ w' h) ?_
 refine kG ?_
 refine kEF [1,2,3,4,8,9,10,11,12,19] ⟨[(1,.v (.int .i64 seq)),(2,.v (.string text)),(3,.v (.bool fin)),(4,.p 0 0),(8,.p 1 0),(9,.p 2 0),(10,.v (.int .i64 (W : Int))),(11,.v (.pointer (some ⟨gd,0,none⟩))),(12,.v (.pointer (some ⟨gh,0,none⟩))),(19,.p 3 0)],[⟨28,rcvL r (.slice Arh r.held.length Crh)⟩,⟨28,rcvZ⟩,⟨28,rcvL r (.slice v1a r.held.length v1c)⟩,⟨28,rcvL r (.slice Arh r.held.length Crh)⟩],[],[cellF w.heap.size gh 78 [.slice (some ⟨g5,0,none⟩) W W],cellF w.heap.size gd 59 [.slice (some ⟨g4,0,none⟩) W W],rowF w.heap.size 4 1 (.slice (some ⟨g5,0,none⟩) W W) ((hvOf W sl).map boolRow),rowF w.heap.size 5 1 (.slice (some ⟨g4,0,none⟩) W W) ((dtOf W sl).map byteRow),ownF w.heap.size (.slice v1a r.held.length v1c) 2 (r.held.map pceCells),slF (.slice Arh r.held.length Crh) 2 (r.held.map pceCells)]⟩ ?_
 refine kS ?_
 refine xe_region0 [] (by kernel_rfl) (fun ρ σ => ?_)
 refine kTS [0,1,2,4,5] [104,101,99,3,4,8,9,10,11,12,19] 3 [(104,.v (.int .i64 r.next)),(101,.v (.int .i64 (text.size : Int))),(99,.v (.int .i64 seq)),(3,.v (.bool fin)),(4,.p 0 0),(8,.p 1 0),(9,.p 2 0),(10,.v (.int .i64 (W : Int))),(11,.v (.pointer (some ⟨gd,0,none⟩))),(12,.v (.pointer (some ⟨gh,0,none⟩))),(19,.p 3 0)] ?_
 refine kA [3] ?_
 refine kSC 3 26 [.int .i64 seq,.int .i64 (text.size : Int)] (some 102) rfl (xc_s fun ww hf => iSeqAdd_c seq (text.size : Int) ww ) ?_
 intro _
 refine kA [6] ?_
 refine kSC 6 43 [.int .i64 (seqAdd seq (text.size : Int)),.int .i64 r.next] (some 105) rfl (xc_s fun ww hf => ahead_c (seqAdd seq (text.size : Int)) r.next ww ) ?_
 intro _
 refine xe_eqS (t := [(105,.v (.int .i64 (((seqAdd seq (text.size : Int)) - r.next) % 4294967296))),(102,.v (.int .i64 (seqAdd seq (text.size : Int)))),(104,.v (.int .i64 r.next)),(101,.v (.int .i64 (text.size : Int))),(99,.v (.int .i64 seq)),(3,.v (.bool fin)),(4,.p 0 0),(8,.p 1 0),(9,.p 2 0),(10,.v (.int .i64 (W : Int))),(11,.v (.pointer (some ⟨gd,0,none⟩))),(12,.v (.pointer (some ⟨gh,0,none⟩))),(19,.p 3 0)]) (t' := [(105,.v (.int .i64 (E : Int))),(102,.v (.int .i64 (seqAdd seq (text.size : Int)))),(104,.v (.int .i64 r.next)),(101,.v (.int .i64 (text.size : Int))),(99,.v (.int .i64 seq)),(3,.v (.bool fin)),(4,.p 0 0),(8,.p 1 0),(9,.p 2 0),(10,.v (.int .i64 (W : Int))),(11,.v (.pointer (some ⟨gd,0,none⟩))),(12,.v (.pointer (some ⟨gh,0,none⟩))),(19,.p 3 0)]) (by rw [show (((seqAdd seq (text.size : Int)) - r.next) % 4294967296) = (E : Int) from hE.1]) ?_
 refine kTS [7] [20,3,4,8,9,10,11,12,19] 0 [(20,.v (.int .i64 (E : Int))),(3,.v (.bool fin)),(4,.p 0 0),(8,.p 1 0),(9,.p 2 0),(10,.v (.int .i64 (W : Int))),(11,.v (.pointer (some ⟨gd,0,none⟩))),(12,.v (.pointer (some ⟨gh,0,none⟩))),(19,.p 3 0)] ?_
 refine kZ ?_
 refine kS ?_
 refine xw_joinF (α := {zz : Int // (fun (fo : Int) => fo = finIn r seq text fin ∧ (-1 ≤ fo ∧ fo ≤ 32)) zz}) (fun zz => (fun (fo : Int) => (⟨[(4,.p 0 0),(8,.p 1 0),(9,.p 2 0),(10,.v (.int .i64 (W : Int))),(11,.v (.pointer (some ⟨gd,0,none⟩))),(12,.v (.pointer (some ⟨gh,0,none⟩))),(19,.p 3 0)],[⟨28,rcvL r (.slice Arh r.held.length Crh)⟩,⟨28,rcvZ⟩,⟨28,rcvL r (.slice v1a r.held.length v1c)⟩,⟨28,rcvL { r with fin := fo } (.slice Arh r.held.length Crh)⟩],[],[cellF w.heap.size gh 78 [.slice (some ⟨g5,0,none⟩) W W],cellF w.heap.size gd 59 [.slice (some ⟨g4,0,none⟩) W W],rowF w.heap.size 4 1 (.slice (some ⟨g5,0,none⟩) W W) ((hvOf W sl).map boolRow),rowF w.heap.size 5 1 (.slice (some ⟨g4,0,none⟩) W W) ((dtOf W sl).map byteRow),ownF w.heap.size (.slice v1a r.held.length v1c) 2 (r.held.map pceCells),slF (.slice Arh r.held.length Crh) 2 (r.held.map pceCells)]⟩ : St)) zz.1) ?_ ?_
 refine kQ ?_
 refine kRD 2 [4,8,9,10,11,12,19,20,107] [(107,.v (.bool fin))] ?_
 refine kP 107 (fin) (fun h12 => ?_) (fun h12 => ?_)
 refine kRD 5 [4,8,9,10,11,12,19,20,112] [(112,.v (.bool (r.fin == (-1))))] ?_
 refine kP 112 (r.fin == (-1)) (fun h13 => ?_) (fun h13 => ?_)
 have h13p := eqT h13
 refine kRD 5 [4,8,9,10,11,12,19,20,117] [(117,.v (.bool (decide ((E : Int) ≤ (W : Int)))))] ?_
 refine kP 117 (decide ((E : Int) ≤ (W : Int))) (fun h14 => ?_) (fun h14 => ?_)
 have h14p := of_decide_eq_true h14
 have hcf := hasB_free (W := W) (p := E) hbe hl hW2 (by omega)
 refine kOD 0 [4,8,9,10,11,12,19,20,117] [(117,.v (.bool true))] (.slice (some ⟨g5,0,none⟩) W W) rfl (fun _ _ _ ww hr => ldP_run (off := 0) (B := w.heap.size) (g := gh) (T := 78) (cs := [.slice (some ⟨g5,0,none⟩) W W]) hr rfl (by kernel_rfl) (by simp) (by kernel_rfl)) ?_
 refine kOD 1 [4,8,9,10,11,12,19,20,117,118,119] [(119,.v (.int .i64 (E : Int)))] (.slice (if W = E then (some ⟨g5,0,none⟩ : Option Addr) else (some ⟨g5,0,none⟩ : Option Addr).map (·.add (E * 1))) (W - E) (W - E)) rfl (fun _ _ _ ww hr => act_slVe (e := 4) (A := some ⟨g5,0,none⟩) (len := W) (cap := W) (K := 1) (k := .i64) (p' := (E : Int)) E hr.1 rfl (by kernel_rfl) (by kernel_rfl) (by kernel_rfl) (by kernel_rfl) rfl (by omega) ww) ?_
 refine kCD 0 [4,8,9,10,11,12,19,20,117,120] [] 44 [.slice (if W = E then (some ⟨g5,0,none⟩ : Option Addr) else (some ⟨g5,0,none⟩ : Option Addr).map (·.add (E * 1))) (W - E) (W - E),.bool true] (some 121) rfl (xc_b fun ww hf => yContainsB_c (((hvOf W sl).drop E).take (W - E)) (.slice (if W = E then (some ⟨g5,0,none⟩ : Option Addr) else (some ⟨g5,0,none⟩ : Option Addr).map (·.add (E * 1))) (W - E) (W - E)) true ww (Sl.partM (rowF_sl (hf _ m2)) E W (by omega) (by omega)) ) ?_
 intro _
 refine kED [4,8,9,10,11,12,19,20,123] [(123,.v (.bool (!(hasB (((hvOf W sl).drop E).take (W - E)) true))))] ?_
 refine kC (!(hasB (((hvOf W sl).drop E).take (W - E)) true)) (fun h15 => ?_) (fun h15 => ?_)
 have h15n := not_t h15
 refine kG ?_
 refine kEU [4,8,9,10,11,12,19] [] 3 ⟨28,rcvL { r with fin := (E : Int) } (.slice Arh r.held.length Crh)⟩ ?_
 exact ⟨⟨((E : Int)),⟨(by unfold finIn; rw [← hall,hW,hE.2]; first | (simp [*]; done) | grind),(by first | omega | (have := hf3; omega))⟩⟩,kF 4 0 [4,8,9,10,11,12,19]⟩
 have h15n := not_f h15
 refine kK ?_
 exact ⟨⟨(r.fin),⟨(by unfold finIn; rw [← hall,hW,hE.2]; first | (simp [*]; done) | grind),(by first | omega | (have := hf3; omega))⟩⟩,kF 4 0 [4,8,9,10,11,12,19]⟩
 have h14p := of_decide_eq_false h14
 refine kED [4,8,9,10,11,12,19,20,123] [(123,.v (.bool false))] ?_
 refine kN ?_
 refine kK ?_
 exact ⟨⟨(r.fin),⟨(by unfold finIn; rw [← hall,hW,hE.2]; first | (simp [*]; done) | grind),(by first | omega | (have := hf3; omega))⟩⟩,kF 4 0 [4,8,9,10,11,12,19]⟩
 have h13p := eqF h13
 refine kED [4,8,9,10,11,12,19,20,123] [(123,.v (.bool false))] ?_
 refine kN ?_
 refine kK ?_
 exact ⟨⟨(r.fin),⟨(by unfold finIn; rw [← hall,hW,hE.2]; first | (simp [*]; done) | grind),(by first | omega | (have := hf3; omega))⟩⟩,kF 4 0 [4,8,9,10,11,12,19]⟩
 refine kED [4,8,9,10,11,12,19,20,123] [(123,.v (.bool false))] ?_
 refine kN ?_
 refine kK ?_
 exact ⟨⟨(r.fin),⟨(by unfold finIn; rw [← hall,hW,hE.2]; first | (simp [*]; done) | grind),(by first | omega | (have := hf3; omega))⟩⟩,kF 4 0 [4,8,9,10,11,12,19]⟩
 rintro ⟨fo,hfo,hfb⟩
 try dsimp only
 try dsimp only at hfo hfb
 refine kQ ?_
 refine kED [4,8,9,10,11,12,19,21] [(21,.v (.int .i64 0))] ?_
 refine kS ?_
 refine xw_joinF (α := {zz : Nat // (fun (n2 : Nat) => n2 = filled sl ∧ n2 ≤ W ∧ (∀ x ∈ sl.take n2,0 ≤ x)) zz}) (fun zz => (fun (n2 : Nat) => (⟨[(4,.p 0 0),(8,.p 1 0),(9,.p 2 0),(10,.v (.int .i64 (W : Int))),(11,.v (.pointer (some ⟨gd,0,none⟩))),(12,.v (.pointer (some ⟨gh,0,none⟩))),(19,.p 3 0),(21,.v (.int .i64 (n2 : Int)))],[⟨28,rcvL r (.slice Arh r.held.length Crh)⟩,⟨28,rcvZ⟩,⟨28,rcvL r (.slice v1a r.held.length v1c)⟩,⟨28,rcvL { r with fin := fo } (.slice Arh r.held.length Crh)⟩],[],[cellF w.heap.size gh 78 [.slice (some ⟨g5,0,none⟩) W W],cellF w.heap.size gd 59 [.slice (some ⟨g4,0,none⟩) W W],rowF w.heap.size 4 1 (.slice (some ⟨g5,0,none⟩) W W) ((hvOf W sl).map boolRow),rowF w.heap.size 5 1 (.slice (some ⟨g4,0,none⟩) W W) ((dtOf W sl).map byteRow),ownF w.heap.size (.slice v1a r.held.length v1c) 2 (r.held.map pceCells),slF (.slice Arh r.held.length Crh) 2 (r.held.map pceCells)]⟩ : St)) zz.1) ?_ ?_
 refine xw_block ?_
 refine xw_loopW (α := {x : Nat // (fun (n2 : Nat) => n2 ≤ W ∧ (∀ x ∈ sl.take n2,0 ≤ x)) x}) (fun x => (fun (n2 : Nat) => (⟨[(4,.p 0 0),(8,.p 1 0),(9,.p 2 0),(10,.v (.int .i64 (W : Int))),(11,.v (.pointer (some ⟨gd,0,none⟩))),(12,.v (.pointer (some ⟨gh,0,none⟩))),(19,.p 3 0),(21,.v (.int .i64 (n2 : Int)))],[⟨28,rcvL r (.slice Arh r.held.length Crh)⟩,⟨28,rcvZ⟩,⟨28,rcvL r (.slice v1a r.held.length v1c)⟩,⟨28,rcvL { r with fin := fo } (.slice Arh r.held.length Crh)⟩],[],[cellF w.heap.size gh 78 [.slice (some ⟨g5,0,none⟩) W W],cellF w.heap.size gd 59 [.slice (some ⟨g4,0,none⟩) W W],rowF w.heap.size 4 1 (.slice (some ⟨g5,0,none⟩) W W) ((hvOf W sl).map boolRow),rowF w.heap.size 5 1 (.slice (some ⟨g4,0,none⟩) W W) ((dtOf W sl).map byteRow),ownF w.heap.size (.slice v1a r.held.length v1c) 2 (r.held.map pceCells),slF (.slice Arh r.held.length Crh) 2 (r.held.map pceCells)]⟩ : St)) x.1) (fun x => (fun (n2 : Nat) => W - n2) x.1) ⟨(0),⟨Nat.zero_le _,(by simp)⟩⟩ (kF 4 0 [4,8,9,10,11,12,19,21]) ?_
 rintro ⟨n2,hn2,hps⟩
 try dsimp only
 try dsimp only at hn2 hps
 refine kS ?_
 refine kQ ?_
 refine kRD 4 [4,8,9,10,11,12,19,21,129] [(129,.v (.bool (decide ((n2 : Int) < (W : Int)))))] ?_
 refine kP 129 (decide ((n2 : Int) < (W : Int))) (fun h16 => ?_) (fun h16 => ?_)
 have h16p := of_decide_eq_true h16
 have hlt2 : n2 < W := by simp at h16; omega
 obtain ⟨y,hy⟩ : ∃ y,sl[n2]? = some y := ⟨_,List.getElem?_eq_getElem (by omega)⟩
 refine kOD 0 [4,8,9,10,11,12,19,21,129] [(129,.v (.bool true))] (.slice (some ⟨g5,0,none⟩) W W) rfl (fun _ _ _ ww hr => ldP_run (off := 0) (B := w.heap.size) (g := gh) (T := 78) (cs := [.slice (some ⟨g5,0,none⟩) W W]) hr rfl (by kernel_rfl) (by simp) (by kernel_rfl)) ?_
 refine kOD 1 [4,8,9,10,11,12,19,21,129,130,131] [(131,.v (.int .i64 (n2 : Int)))] (.pointer (some ⟨g5,n2 * 1,none⟩)) rfl (fun _ _ _ ww hr => act_ix (kd := .i64) (T := 78) (e := 4) (K := 1) (g := g5) (N := W) (cap := W) n2 rfl hr.1 rfl rfl (by kernel_rfl) (by kernel_rfl) (by kernel_rfl) hlt2 ww) ?_
 refine kOD 0 [4,8,9,10,11,12,19,21,129,132] [] (.bool (decide (0 ≤ y))) rfl (fun _ _ _ ww hr => ldR_run (po := 0) (j := n2) (row := [.bool (decide (0 ≤ y))]) (rowF w.heap.size 4 1 (.slice (some ⟨g5,0,none⟩) W W) ((hvOf W sl).map boolRow)) hr rfl (by kernel_rfl) (by simp) (by simp only [List.getElem?_map,hvOf_get hlt2 hy]; rfl) (by kernel_rfl) rfl rfl rfl) ?_
 refine kED [4,8,9,10,11,12,19,21,134] [(134,.v (.bool (decide (0 ≤ y))))] ?_
 refine kC (decide (0 ≤ y)) (fun h17 => ?_) (fun h17 => ?_)
 have h17p := of_decide_eq_true h17
 have hyp := of_decide_eq_true h17
 refine kK ?_
 refine xw_block ?_
 refine kG ?_
 refine kRS 3 [4,8,9,10,11,12,19,21] [(4,.p 0 0),(8,.p 1 0),(9,.p 2 0),(10,.v (.int .i64 (W : Int))),(11,.v (.pointer (some ⟨gd,0,none⟩))),(12,.v (.pointer (some ⟨gh,0,none⟩))),(19,.p 3 0),(21,.v (.int .i64 (IntKind.i64.wrap ((n2 : Int) + 1))))] ?_
 refine xl_eqS (t' := [(4,.p 0 0),(8,.p 1 0),(9,.p 2 0),(10,.v (.int .i64 (W : Int))),(11,.v (.pointer (some ⟨gd,0,none⟩))),(12,.v (.pointer (some ⟨gh,0,none⟩))),(19,.p 3 0),(21,.v (.int .i64 ((n2 : Int) + 1)))]) (by rw [show (IntKind.i64.wrap ((n2 : Int) + 1)) = ((n2 : Int) + 1) from wrap_id (by omega) (by omega)]) ?_
 refine kED [4,8,9,10,11,12,19,21] [] ?_
 exact ⟨⟨(n2 + 1),⟨(by (try dsimp only); omega),(take_pos hps hy (by omega))⟩⟩,kF 4 0 [4,8,9,10,11,12,19,21],by show (fun (n2 : Nat) => W - n2) (n2 + 1) < W - n2; (dsimp only; omega)⟩
 have h17p := of_decide_eq_false h17
 have hyp := of_decide_eq_false h17
 refine xw_exit ?_
 exact ⟨⟨(n2),⟨(by first | exact (filled_stop (k := n2) (by omega) hps (fun z hz => by rw [hy] at hz; simp only [Option.some.injEq] at hz; omega)).symm | exact (filled_stop (k := n2) (by omega) hps (fun z hz => by rw [hbe n2 (by omega) (by omega)] at hz; simp only [Option.some.injEq] at hz; omega)).symm),hn2,hps⟩⟩,kF 4 0 [4,8,9,10,11,12,19,21]⟩
 have h16p := of_decide_eq_false h16
 have hge2 : n2 = W := by simp at h16; omega
 refine kED [4,8,9,10,11,12,19,21,134] [(134,.v (.bool false))] ?_
 refine kN ?_
 refine xw_exit ?_
 exact ⟨⟨(n2),⟨(by first | exact (filled_stop (k := n2) (by omega) hps (fun z hz => by rw [hy] at hz; simp only [Option.some.injEq] at hz; omega)).symm | exact (filled_stop (k := n2) (by omega) hps (fun z hz => by rw [hbe n2 (by omega) (by omega)] at hz; simp only [Option.some.injEq] at hz; omega)).symm),hn2,hps⟩⟩,kF 4 0 [4,8,9,10,11,12,19,21]⟩
 rintro ⟨n2,hnf,hn2,hps⟩
 try dsimp only
 try dsimp only at hnf hn2 hps
 refine kS ?_
 refine xw_join ⟨[(4,.p 0 0),(8,.p 1 0),(9,.p 2 0),(10,.v (.int .i64 (W : Int))),(11,.v (.pointer (some ⟨gd,0,none⟩))),(12,.v (.pointer (some ⟨gh,0,none⟩))),(19,.p 3 0),(21,.v (.int .i64 (n2 : Int)))],[⟨28,rcvL r (.slice Arh r.held.length Crh)⟩,⟨28,rcvZ⟩,⟨28,rcvL r (.slice v1a r.held.length v1c)⟩,⟨28,rcvL { r with data := r.data ++ (bstr (sl.take n2)),fin := fo } (.slice Arh r.held.length Crh)⟩],[],[cellF w.heap.size gh 78 [.slice (some ⟨g5,0,none⟩) W W],cellF w.heap.size gd 59 [.slice (some ⟨g4,0,none⟩) W W],rowF w.heap.size 4 1 (.slice (some ⟨g5,0,none⟩) W W) ((hvOf W sl).map boolRow),rowF w.heap.size 5 1 (.slice (some ⟨g4,0,none⟩) W W) ((dtOf W sl).map byteRow),ownF w.heap.size (.slice v1a r.held.length v1c) 2 (r.held.map pceCells),slF (.slice Arh r.held.length Crh) 2 (r.held.map pceCells)]⟩ ?_ ?_
 refine xws_start ?_
 refine xws_cell (B := w.heap.size) (g := gd) (T := 59) (cs := [.slice (some ⟨g4,0,none⟩) W W]) (fun _ _ h => h) (by simp) ?_
 refine xws_regionE [true,true,true,false] (by kernel_rfl) (fun ρ σ hq18 => ?_)
 refine kTS [0,3] [140,137,4,8,9,10,11,12,19,21] 7 [(140,.v (.int .i64 (n2 : Int))),(137,.p 3 1),(4,.p 0 0),(8,.p 1 0),(9,.p 2 0),(10,.v (.int .i64 (W : Int))),(11,.v (.pointer (some ⟨gd,0,none⟩))),(12,.v (.pointer (some ⟨gh,0,none⟩))),(19,.p 3 0),(21,.v (.int .i64 (n2 : Int)))] ?_
 refine xe_opH 2 (.slice (some ⟨g4,0,none⟩) W W) _ rfl (by kernel_rfl) (by kernel_rfl) (by kernel_rfl) (fun _ _ h => h) (by kernel_rfl) rfl (fun _ _ ww hA hS => ld_range (g := gd) (off := 0) (cs := [.slice (some ⟨g4,0,none⟩) W W]) hA rfl (by kernel_rfl) (rd_row hS (h := 0) rfl hq18.2) (by kernel_rfl)) rfl ?_
 refine kA [1,4] ⟨?_,?_⟩
 refine kSV 1 (.v (.string r.data)) rfl ?_
 refine kA [4] ?_
 refine kSR 4 (.slice (if W = 0 then (some ⟨g4,0,none⟩ : Option Addr) else (some ⟨g4,0,none⟩ : Option Addr).map (·.add (0 * 1))) (n2 - 0) (W - 0)) rfl (fun _ _ ww hr => act_slV0 (e := 5) (A := some ⟨g4,0,none⟩) (len := W) (cap := W) (K := 1) (k' := .i64) (q' := (n2 : Int)) n2 hr.1 rfl (by kernel_rfl) (by kernel_rfl) (by kernel_rfl) (by kernel_rfl) rfl (Nat.le_trans (show n2 ≤ W by omega) (Sl.capLe (rowF_sl (hr.2.fact (rowF w.heap.size 5 1 (.slice (some ⟨g4,0,none⟩) W W) ((dtOf W sl).map byteRow)) (by simp)).1))) ww) ?_
 refine kA [5] ?_
 refine kSR 5 (.string (bstr (((dtOf W sl).drop 0).take (n2 - 0)))) rfl (fun _ _ ww hr => act_b2s (e := 5) (((dtOf W sl).drop 0).take (n2 - 0)) hr.1 rfl (by kernel_rfl) (by kernel_rfl) (by kernel_rfl) rfl (Sl.partM (rowF_sl (hr.2.fact (rowF w.heap.size 5 1 (.slice (some ⟨g4,0,none⟩) W W) ((dtOf W sl).map byteRow)) (by simp)).1) 0 n2 (by omega) (by omega))) ?_
 refine xe_eqS (t := [(142,.v (.string (bstr (((dtOf W sl).drop 0).take (n2 - 0))))),(141,.v (.slice (if W = 0 then (some ⟨g4,0,none⟩ : Option Addr) else (some ⟨g4,0,none⟩ : Option Addr).map (·.add (0 * 1))) (n2 - 0) (W - 0))),(138,.v (.string r.data)),(139,.v (.slice (some ⟨g4,0,none⟩) W W)),(140,.v (.int .i64 (n2 : Int))),(137,.p 3 1),(4,.p 0 0),(8,.p 1 0),(9,.p 2 0),(10,.v (.int .i64 (W : Int))),(11,.v (.pointer (some ⟨gd,0,none⟩))),(12,.v (.pointer (some ⟨gh,0,none⟩))),(19,.p 3 0),(21,.v (.int .i64 (n2 : Int)))]) (t' := [(142,.v (.string (bstr (sl.take n2)))),(141,.v (.slice (if W = 0 then (some ⟨g4,0,none⟩ : Option Addr) else (some ⟨g4,0,none⟩ : Option Addr).map (·.add (0 * 1))) (n2 - 0) (W - 0))),(138,.v (.string r.data)),(139,.v (.slice (some ⟨g4,0,none⟩) W W)),(140,.v (.int .i64 (n2 : Int))),(137,.p 3 1),(4,.p 0 0),(8,.p 1 0),(9,.p 2 0),(10,.v (.int .i64 (W : Int))),(11,.v (.pointer (some ⟨gd,0,none⟩))),(12,.v (.pointer (some ⟨gh,0,none⟩))),(19,.p 3 0),(21,.v (.int .i64 (n2 : Int)))]) (by rw [show (bstr (((dtOf W sl).drop 0).take (n2 - 0))) = (bstr (sl.take n2)) from dt_head hn2 hps]) ?_
 refine kX 6 (.string (r.data ++ (bstr (sl.take n2)))) rfl (fun _ _ ww hA => act_bin hA rfl (by kernel_rfl) (by kernel_rfl) (str_add (by rw [bstr_size,List.length_take]; omega) ww)) ?_
 refine kTS [7] [144,143,4,8,9,10,11,12,19,21] 1 [(144,.p 3 1),(143,.v (.string (r.data ++ (bstr (sl.take n2))))),(4,.p 0 0),(8,.p 1 0),(9,.p 2 0),(10,.v (.int .i64 (W : Int))),(11,.v (.pointer (some ⟨gd,0,none⟩))),(12,.v (.pointer (some ⟨gh,0,none⟩))),(19,.p 3 0),(21,.v (.int .i64 (n2 : Int)))] ?_
 refine kA [8] ?_
 refine kSS 8 3 1 [.string (r.data ++ (bstr (sl.take n2)))] rfl ?_
 refine kZ ?_
 exact kF 4 0 [4,8,9,10,11,12,19,21]
 refine kSR 4 (.slice (if W = 0 then (some ⟨g4,0,none⟩ : Option Addr) else (some ⟨g4,0,none⟩ : Option Addr).map (·.add (0 * 1))) (n2 - 0) (W - 0)) rfl (fun _ _ ww hr => act_slV0 (e := 5) (A := some ⟨g4,0,none⟩) (len := W) (cap := W) (K := 1) (k' := .i64) (q' := (n2 : Int)) n2 hr.1 rfl (by kernel_rfl) (by kernel_rfl) (by kernel_rfl) (by kernel_rfl) rfl (Nat.le_trans (show n2 ≤ W by omega) (Sl.capLe (rowF_sl (hr.2.fact (rowF w.heap.size 5 1 (.slice (some ⟨g4,0,none⟩) W W) ((dtOf W sl).map byteRow)) (by simp)).1))) ww) ?_
 refine kA [1,5] ⟨?_,?_⟩
 refine kSV 1 (.v (.string r.data)) rfl ?_
 refine kA [5] ?_
 refine kSR 5 (.string (bstr (((dtOf W sl).drop 0).take (n2 - 0)))) rfl (fun _ _ ww hr => act_b2s (e := 5) (((dtOf W sl).drop 0).take (n2 - 0)) hr.1 rfl (by kernel_rfl) (by kernel_rfl) (by kernel_rfl) rfl (Sl.partM (rowF_sl (hr.2.fact (rowF w.heap.size 5 1 (.slice (some ⟨g4,0,none⟩) W W) ((dtOf W sl).map byteRow)) (by simp)).1) 0 n2 (by omega) (by omega))) ?_
 refine xe_eqS (t := [(142,.v (.string (bstr (((dtOf W sl).drop 0).take (n2 - 0))))),(138,.v (.string r.data)),(141,.v (.slice (if W = 0 then (some ⟨g4,0,none⟩ : Option Addr) else (some ⟨g4,0,none⟩ : Option Addr).map (·.add (0 * 1))) (n2 - 0) (W - 0))),(139,.v (.slice (some ⟨g4,0,none⟩) W W)),(140,.v (.int .i64 (n2 : Int))),(137,.p 3 1),(4,.p 0 0),(8,.p 1 0),(9,.p 2 0),(10,.v (.int .i64 (W : Int))),(11,.v (.pointer (some ⟨gd,0,none⟩))),(12,.v (.pointer (some ⟨gh,0,none⟩))),(19,.p 3 0),(21,.v (.int .i64 (n2 : Int)))]) (t' := [(142,.v (.string (bstr (sl.take n2)))),(138,.v (.string r.data)),(141,.v (.slice (if W = 0 then (some ⟨g4,0,none⟩ : Option Addr) else (some ⟨g4,0,none⟩ : Option Addr).map (·.add (0 * 1))) (n2 - 0) (W - 0))),(139,.v (.slice (some ⟨g4,0,none⟩) W W)),(140,.v (.int .i64 (n2 : Int))),(137,.p 3 1),(4,.p 0 0),(8,.p 1 0),(9,.p 2 0),(10,.v (.int .i64 (W : Int))),(11,.v (.pointer (some ⟨gd,0,none⟩))),(12,.v (.pointer (some ⟨gh,0,none⟩))),(19,.p 3 0),(21,.v (.int .i64 (n2 : Int)))]) (by rw [show (bstr (((dtOf W sl).drop 0).take (n2 - 0))) = (bstr (sl.take n2)) from dt_head hn2 hps]) ?_
 refine kX 6 (.string (r.data ++ (bstr (sl.take n2)))) rfl (fun _ _ ww hA => act_bin hA rfl (by kernel_rfl) (by kernel_rfl) (str_add (by rw [bstr_size,List.length_take]; omega) ww)) ?_
 refine kTS [7] [144,143,4,8,9,10,11,12,19,21] 1 [(144,.p 3 1),(143,.v (.string (r.data ++ (bstr (sl.take n2))))),(4,.p 0 0),(8,.p 1 0),(9,.p 2 0),(10,.v (.int .i64 (W : Int))),(11,.v (.pointer (some ⟨gd,0,none⟩))),(12,.v (.pointer (some ⟨gh,0,none⟩))),(19,.p 3 0),(21,.v (.int .i64 (n2 : Int)))] ?_
 refine kA [8] ?_
 refine kSS 8 3 1 [.string (r.data ++ (bstr (sl.take n2)))] rfl ?_
 refine kZ ?_
 exact kF 4 0 [4,8,9,10,11,12,19,21]
 refine kSR 5 (.string (bstr (((dtOf W sl).drop 0).take (n2 - 0)))) rfl (fun _ _ ww hr => act_b2s (e := 5) (((dtOf W sl).drop 0).take (n2 - 0)) hr.1 rfl (by kernel_rfl) (by kernel_rfl) (by kernel_rfl) rfl (Sl.partM (rowF_sl (hr.2.fact (rowF w.heap.size 5 1 (.slice (some ⟨g4,0,none⟩) W W) ((dtOf W sl).map byteRow)) (by simp)).1) 0 n2 (by omega) (by omega))) ?_
 refine xe_eqS (t := [(142,.v (.string (bstr (((dtOf W sl).drop 0).take (n2 - 0))))),(141,.v (.slice (if W = 0 then (some ⟨g4,0,none⟩ : Option Addr) else (some ⟨g4,0,none⟩ : Option Addr).map (·.add (0 * 1))) (n2 - 0) (W - 0))),(139,.v (.slice (some ⟨g4,0,none⟩) W W)),(140,.v (.int .i64 (n2 : Int))),(137,.p 3 1),(4,.p 0 0),(8,.p 1 0),(9,.p 2 0),(10,.v (.int .i64 (W : Int))),(11,.v (.pointer (some ⟨gd,0,none⟩))),(12,.v (.pointer (some ⟨gh,0,none⟩))),(19,.p 3 0),(21,.v (.int .i64 (n2 : Int)))]) (t' := [(142,.v (.string (bstr (sl.take n2)))),(141,.v (.slice (if W = 0 then (some ⟨g4,0,none⟩ : Option Addr) else (some ⟨g4,0,none⟩ : Option Addr).map (·.add (0 * 1))) (n2 - 0) (W - 0))),(139,.v (.slice (some ⟨g4,0,none⟩) W W)),(140,.v (.int .i64 (n2 : Int))),(137,.p 3 1),(4,.p 0 0),(8,.p 1 0),(9,.p 2 0),(10,.v (.int .i64 (W : Int))),(11,.v (.pointer (some ⟨gd,0,none⟩))),(12,.v (.pointer (some ⟨gh,0,none⟩))),(19,.p 3 0),(21,.v (.int .i64 (n2 : Int)))]) (by rw [show (bstr (((dtOf W sl).drop 0).take (n2 - 0))) = (bstr (sl.take n2)) from dt_head hn2 hps]) ?_
 refine kA [1] ?_
 refine kSV 1 (.v (.string r.data)) rfl ?_
 refine kX 6 (.string (r.data ++ (bstr (sl.take n2)))) rfl (fun _ _ ww hA => act_bin hA rfl (by kernel_rfl) (by kernel_rfl) (str_add (by rw [bstr_size,List.length_take]; omega) ww)) ?_
 refine kTS [7] [144,143,4,8,9,10,11,12,19,21] 1 [(144,.p 3 1),(143,.v (.string (r.data ++ (bstr (sl.take n2))))),(4,.p 0 0),(8,.p 1 0),(9,.p 2 0),(10,.v (.int .i64 (W : Int))),(11,.v (.pointer (some ⟨gd,0,none⟩))),(12,.v (.pointer (some ⟨gh,0,none⟩))),(19,.p 3 0),(21,.v (.int .i64 (n2 : Int)))] ?_
 refine kA [8] ?_
 refine kSS 8 3 1 [.string (r.data ++ (bstr (sl.take n2)))] rfl ?_
 refine kZ ?_
 exact kF 4 0 [4,8,9,10,11,12,19,21]
 refine kQ ?_
 refine kCD 3 [8,9,10,11,12,19,21,146,147] [(146,.v (.int .i64 r.next)),(147,.v (.int .i64 (n2 : Int)))] 26 [.int .i64 r.next,.int .i64 (n2 : Int)] (some 148) rfl (xc_s fun ww hf => iSeqAdd_c r.next (n2 : Int) ww ) ?_
 intro _
 refine kEU [8,9,10,11,12,19,21] [] 3 ⟨28,[.int .i64 (seqAdd r.next (n2 : Int)),.string (r.data ++ (bstr (sl.take n2))),.slice Arh r.held.length Crh,.int .i64 fo,.bool r.done]⟩ ?_
 refine kS ?_
 refine xw_joinF (α := {zz : Int // (fun (fp : Int) => fp = finOut r seq text fin) zz}) (fun zz => (fun (fp : Int) => (⟨[(8,.p 1 0),(9,.p 2 0),(10,.v (.int .i64 (W : Int))),(11,.v (.pointer (some ⟨gd,0,none⟩))),(12,.v (.pointer (some ⟨gh,0,none⟩))),(19,.p 3 0),(21,.v (.int .i64 (n2 : Int)))],[⟨28,rcvL r (.slice Arh r.held.length Crh)⟩,⟨28,rcvZ⟩,⟨28,rcvL r (.slice v1a r.held.length v1c)⟩,⟨28,[.int .i64 (seqAdd r.next (n2 : Int)),.string (r.data ++ (bstr (sl.take n2))),.slice Arh r.held.length Crh,.int .i64 fp,.bool r.done]⟩],[],[cellF w.heap.size gh 78 [.slice (some ⟨g5,0,none⟩) W W],cellF w.heap.size gd 59 [.slice (some ⟨g4,0,none⟩) W W],rowF w.heap.size 4 1 (.slice (some ⟨g5,0,none⟩) W W) ((hvOf W sl).map boolRow),rowF w.heap.size 5 1 (.slice (some ⟨g4,0,none⟩) W W) ((dtOf W sl).map byteRow),ownF w.heap.size (.slice v1a r.held.length v1c) 2 (r.held.map pceCells),slF (.slice Arh r.held.length Crh) 2 (r.held.map pceCells)]⟩ : St)) zz.1) ?_ ?_
 refine kQ ?_
 refine kED [8,9,10,11,12,19,21,152] [(152,.v (.bool (fo != (-1))))] ?_
 refine kC (fo != (-1)) (fun h19 => ?_) (fun h19 => ?_)
 have h19p := neT h19
 refine kG ?_
 refine kRF 6 [8,9,10,11,12,19,21] ⟨[(8,.p 1 0),(9,.p 2 0),(10,.v (.int .i64 (W : Int))),(11,.v (.pointer (some ⟨gd,0,none⟩))),(12,.v (.pointer (some ⟨gh,0,none⟩))),(19,.p 3 0),(21,.v (.int .i64 (n2 : Int)))],[⟨28,rcvL r (.slice Arh r.held.length Crh)⟩,⟨28,rcvZ⟩,⟨28,rcvL r (.slice v1a r.held.length v1c)⟩,⟨28,[.int .i64 (seqAdd r.next (n2 : Int)),.string (r.data ++ (bstr (sl.take n2))),.slice Arh r.held.length Crh,.int .i64 (IntKind.i64.wrap (fo - (n2 : Int))),.bool r.done]⟩],[],[cellF w.heap.size gh 78 [.slice (some ⟨g5,0,none⟩) W W],cellF w.heap.size gd 59 [.slice (some ⟨g4,0,none⟩) W W],rowF w.heap.size 4 1 (.slice (some ⟨g5,0,none⟩) W W) ((hvOf W sl).map boolRow),rowF w.heap.size 5 1 (.slice (some ⟨g4,0,none⟩) W W) ((dtOf W sl).map byteRow),ownF w.heap.size (.slice v1a r.held.length v1c) 2 (r.held.map pceCells),slF (.slice Arh r.held.length Crh) 2 (r.held.map pceCells)]⟩ ?_
 refine xl_eq (st' := ⟨[(8,.p 1 0),(9,.p 2 0),(10,.v (.int .i64 (W : Int))),(11,.v (.pointer (some ⟨gd,0,none⟩))),(12,.v (.pointer (some ⟨gh,0,none⟩))),(19,.p 3 0),(21,.v (.int .i64 (n2 : Int)))],[⟨28,rcvL r (.slice Arh r.held.length Crh)⟩,⟨28,rcvZ⟩,⟨28,rcvL r (.slice v1a r.held.length v1c)⟩,⟨28,[.int .i64 (seqAdd r.next (n2 : Int)),.string (r.data ++ (bstr (sl.take n2))),.slice Arh r.held.length Crh,.int .i64 (fo - (n2 : Int)),.bool r.done]⟩],[],[cellF w.heap.size gh 78 [.slice (some ⟨g5,0,none⟩) W W],cellF w.heap.size gd 59 [.slice (some ⟨g4,0,none⟩) W W],rowF w.heap.size 4 1 (.slice (some ⟨g5,0,none⟩) W W) ((hvOf W sl).map boolRow),rowF w.heap.size 5 1 (.slice (some ⟨g4,0,none⟩) W W) ((dtOf W sl).map byteRow),ownF w.heap.size (.slice v1a r.held.length v1c) 2 (r.held.map pceCells),slF (.slice Arh r.held.length Crh) 2 (r.held.map pceCells)]⟩) (by rw [show (IntKind.i64.wrap (fo - (n2 : Int))) = (fo - (n2 : Int)) from wrap_id (by omega) (by omega)] <;> rfl) ?_
 refine kED [8,9,10,11,12,19,21] [] ?_
 exact ⟨⟨(fo - (n2 : Int)),(by unfold finOut; rw [← hall,← hnf,← hfo]; first | rw [if_pos (by omega)] | rw [if_neg (by omega)])⟩,kF 4 0 [8,9,10,11,12,19,21]⟩
 have h19p := neF h19
 refine kK ?_
 exact ⟨⟨(fo),(by unfold finOut; rw [← hall,← hnf,← hfo]; first | rw [if_pos (by omega)] | rw [if_neg (by omega)])⟩,kF 4 0 [8,9,10,11,12,19,21]⟩
 rintro ⟨fp,hfp⟩
 try dsimp only
 try dsimp only at hfp
 refine kQ ?_
 refine kEU [8,9,10,11,12,19,21] [] 3 ⟨28,[.int .i64 (seqAdd r.next (n2 : Int)),.string (r.data ++ (bstr (sl.take n2))),.slice none 0 0,.int .i64 fp,.bool r.done]⟩ ?_
 refine kS ?_
 refine kQ ?_
 refine kED [8,9,10,11,12,19,21,22] [(22,.v (.int .i64 (n2 : Int)))] ?_
 refine xw_block ?_
 refine xw_free (rowF w.heap.size 81 2 (.slice none 0 0) (([] : List Pce).map pceCells)) (fun ww hww => nilF_p _ _ ww hww) (fun b => nilF_b _ _ _ b) ?_
 refine xw_loopW (α := {x : Nat × List Pce × Option Addr × Nat // (fun (i : Nat) (out : List Pce) (A1 : Option Addr) (c1 : Nat) => (n2 ≤ i ∧ i ≤ W) ∧ pcs [] 0 (sl.drop n2) = pcs out (i - n2) (sl.drop i) ∧ (∀ p ∈ out,0 ≤ p.off ∧ p.off + (p.text.size : Int) ≤ ((i - n2 : Nat) : Int)) ∧ (∀ x,sl[i]? = some x → 0 ≤ x → ¬ touches out (i - n2)) ∧ out.length ≤ i) x.1 x.2.1 x.2.2.1 x.2.2.2}) (fun x => (fun (i : Nat) (out : List Pce) (A1 : Option Addr) (c1 : Nat) => (⟨[(8,.p 1 0),(9,.p 2 0),(10,.v (.int .i64 (W : Int))),(11,.v (.pointer (some ⟨gd,0,none⟩))),(12,.v (.pointer (some ⟨gh,0,none⟩))),(19,.p 3 0),(21,.v (.int .i64 (n2 : Int))),(22,.v (.int .i64 (i : Int)))],[⟨28,rcvL r (.slice Arh r.held.length Crh)⟩,⟨28,rcvZ⟩,⟨28,rcvL r (.slice v1a r.held.length v1c)⟩,⟨28,[.int .i64 (seqAdd r.next (n2 : Int)),.string (r.data ++ (bstr (sl.take n2))),.slice A1 out.length c1,.int .i64 fp,.bool r.done]⟩],[],[rowF w.heap.size 81 2 (.slice A1 out.length c1) (out.map pceCells),cellF w.heap.size gh 78 [.slice (some ⟨g5,0,none⟩) W W],cellF w.heap.size gd 59 [.slice (some ⟨g4,0,none⟩) W W],rowF w.heap.size 4 1 (.slice (some ⟨g5,0,none⟩) W W) ((hvOf W sl).map boolRow),rowF w.heap.size 5 1 (.slice (some ⟨g4,0,none⟩) W W) ((dtOf W sl).map byteRow),ownF w.heap.size (.slice v1a r.held.length v1c) 2 (r.held.map pceCells),slF (.slice Arh r.held.length Crh) 2 (r.held.map pceCells)]⟩ : St)) x.1.1 x.1.2.1 x.1.2.2.1 x.1.2.2.2) (fun x => (fun (i : Nat) (out : List Pce) (A1 : Option Addr) (c1 : Nat) => W - i) x.1.1 x.1.2.1 x.1.2.2.1 x.1.2.2.2) ⟨(n2,([] : List Pce),none,0),⟨⟨Nat.le_refl _,hn2⟩,(by rw [Nat.sub_self]),(by simp),(fun x _ _ => by rintro ⟨p,hp,-⟩; simp at hp),Nat.zero_le _⟩⟩ (kF 4 0 [8,9,10,11,12,19,21,22]) ?_
 rintro ⟨⟨i,out,A1,c1⟩,hi,HP,hbd,htc,hol⟩
 try dsimp only
 try dsimp only at hi HP hbd htc hol
 refine kS ?_
 refine kQ ?_
 refine kED [8,9,10,11,12,19,21,22,162] [(162,.v (.bool (decide ((i : Int) < (W : Int)))))] ?_
 refine kC (decide ((i : Int) < (W : Int))) (fun h20 => ?_) (fun h20 => ?_)
 have h20p := of_decide_eq_true h20
 have hlt5 : i < W := by simp at h20; omega
 obtain ⟨y2,hy2⟩ : ∃ y,sl[i]? = some y := ⟨_,List.getElem?_eq_getElem (by omega)⟩
 refine kK ?_
 refine xw_block ?_
 refine kS ?_
 refine kQ ?_
 refine kOD 0 [8,9,10,11,12,19,21,22] [] (.slice (some ⟨g5,0,none⟩) W W) rfl (fun _ _ _ ww hr => ldP_run (off := 0) (B := w.heap.size) (g := gh) (T := 78) (cs := [.slice (some ⟨g5,0,none⟩) W W]) hr rfl (by kernel_rfl) (by simp) (by kernel_rfl)) ?_
 refine kOD 1 [8,9,10,11,12,19,21,22,163,164] [(164,.v (.int .i64 (i : Int)))] (.pointer (some ⟨g5,i * 1,none⟩)) rfl (fun _ _ _ ww hr => act_ix (kd := .i64) (T := 78) (e := 4) (K := 1) (g := g5) (N := W) (cap := W) i rfl hr.1 rfl rfl (by kernel_rfl) (by kernel_rfl) (by kernel_rfl) hlt5 ww) ?_
 refine kOD 0 [8,9,10,11,12,19,21,22,165] [] (.bool (decide (0 ≤ y2))) rfl (fun _ _ _ ww hr => ldR_run (po := 0) (j := i) (row := [.bool (decide (0 ≤ y2))]) (rowF w.heap.size 4 1 (.slice (some ⟨g5,0,none⟩) W W) ((hvOf W sl).map boolRow)) hr rfl (by kernel_rfl) (by simp) (by simp only [List.getElem?_map,hvOf_get hlt5 hy2]; rfl) (by kernel_rfl) rfl rfl rfl) ?_
 refine kED [8,9,10,11,12,19,21,22,167] [(167,.v (.bool (!(decide (0 ≤ y2)))))] ?_
 refine kC (!(decide (0 ≤ y2))) (fun h21 => ?_) (fun h21 => ?_)
 have h21n := not_t h21
 have hy2p := of_decide_eq_false h21n
 refine kQ ?_
 refine kRS 3 [8,9,10,11,12,19,21,22] [(8,.p 1 0),(9,.p 2 0),(10,.v (.int .i64 (W : Int))),(11,.v (.pointer (some ⟨gd,0,none⟩))),(12,.v (.pointer (some ⟨gh,0,none⟩))),(19,.p 3 0),(21,.v (.int .i64 (n2 : Int))),(22,.v (.int .i64 (IntKind.i64.wrap ((i : Int) + 1))))] ?_
 refine xl_eqS (t' := [(8,.p 1 0),(9,.p 2 0),(10,.v (.int .i64 (W : Int))),(11,.v (.pointer (some ⟨gd,0,none⟩))),(12,.v (.pointer (some ⟨gh,0,none⟩))),(19,.p 3 0),(21,.v (.int .i64 (n2 : Int))),(22,.v (.int .i64 ((i : Int) + 1)))]) (by rw [show (IntKind.i64.wrap ((i : Int) + 1)) = ((i : Int) + 1) from wrap_id (by omega) (by omega)]) ?_
 refine kED [8,9,10,11,12,19,21,22] [] ?_
 refine xw_exit ?_
 exact ⟨⟨(i + 1,out,A1,c1),⟨(by (try dsimp only); omega),(by rw [HP,pcs_step (l := sl) (m := n2) hy2 (by omega),if_pos (by omega)]),(fun p hp => by have := hbd p hp; (try dsimp only); omega),(fun x _ _ => by rw [show i + 1 - n2 = (i - n2) + 1 by omega]; exact touch_skip hbd),(by (try dsimp only); omega)⟩⟩,kF 4 0 [8,9,10,11,12,19,21,22],by show (fun (i : Nat) (out : List Pce) (A1 : Option Addr) (c1 : Nat) => W - i) (i + 1) out A1 c1 < W - i; (dsimp only; omega)⟩
 have h21n := not_f h21
 have hy2p := of_decide_eq_true h21n
 refine kK ?_
 refine kQ ?_
 refine kED [8,9,10,11,12,19,21,22,23] [(23,.v (.int .i64 (i : Int)))] ?_
 refine kS ?_
 refine xw_joinF (α := {zz : Nat // (fun (j : Nat) => (i < j ∧ j ≤ W) ∧ (∀ x ∈ (sl.drop i).take (j - i),0 ≤ x) ∧ (∀ z,sl[j]? = some z → z < 0)) zz}) (fun zz => (fun (j : Nat) => (⟨[(8,.p 1 0),(9,.p 2 0),(10,.v (.int .i64 (W : Int))),(11,.v (.pointer (some ⟨gd,0,none⟩))),(12,.v (.pointer (some ⟨gh,0,none⟩))),(19,.p 3 0),(21,.v (.int .i64 (n2 : Int))),(22,.v (.int .i64 (j : Int))),(23,.v (.int .i64 (i : Int)))],[⟨28,rcvL r (.slice Arh r.held.length Crh)⟩,⟨28,rcvZ⟩,⟨28,rcvL r (.slice v1a r.held.length v1c)⟩,⟨28,[.int .i64 (seqAdd r.next (n2 : Int)),.string (r.data ++ (bstr (sl.take n2))),.slice A1 out.length c1,.int .i64 fp,.bool r.done]⟩],[],[rowF w.heap.size 81 2 (.slice A1 out.length c1) (out.map pceCells),cellF w.heap.size gh 78 [.slice (some ⟨g5,0,none⟩) W W],cellF w.heap.size gd 59 [.slice (some ⟨g4,0,none⟩) W W],rowF w.heap.size 4 1 (.slice (some ⟨g5,0,none⟩) W W) ((hvOf W sl).map boolRow),rowF w.heap.size 5 1 (.slice (some ⟨g4,0,none⟩) W W) ((dtOf W sl).map byteRow),ownF w.heap.size (.slice v1a r.held.length v1c) 2 (r.held.map pceCells),slF (.slice Arh r.held.length Crh) 2 (r.held.map pceCells)]⟩ : St)) zz.1) ?_ ?_
 refine xw_block ?_
 refine xw_loopW (α := {x : Nat // (fun (j : Nat) => (i ≤ j ∧ j ≤ W) ∧ (∀ x ∈ (sl.drop i).take (j - i),0 ≤ x)) x}) (fun x => (fun (j : Nat) => (⟨[(8,.p 1 0),(9,.p 2 0),(10,.v (.int .i64 (W : Int))),(11,.v (.pointer (some ⟨gd,0,none⟩))),(12,.v (.pointer (some ⟨gh,0,none⟩))),(19,.p 3 0),(21,.v (.int .i64 (n2 : Int))),(22,.v (.int .i64 (j : Int))),(23,.v (.int .i64 (i : Int)))],[⟨28,rcvL r (.slice Arh r.held.length Crh)⟩,⟨28,rcvZ⟩,⟨28,rcvL r (.slice v1a r.held.length v1c)⟩,⟨28,[.int .i64 (seqAdd r.next (n2 : Int)),.string (r.data ++ (bstr (sl.take n2))),.slice A1 out.length c1,.int .i64 fp,.bool r.done]⟩],[],[rowF w.heap.size 81 2 (.slice A1 out.length c1) (out.map pceCells),cellF w.heap.size gh 78 [.slice (some ⟨g5,0,none⟩) W W],cellF w.heap.size gd 59 [.slice (some ⟨g4,0,none⟩) W W],rowF w.heap.size 4 1 (.slice (some ⟨g5,0,none⟩) W W) ((hvOf W sl).map boolRow),rowF w.heap.size 5 1 (.slice (some ⟨g4,0,none⟩) W W) ((dtOf W sl).map byteRow),ownF w.heap.size (.slice v1a r.held.length v1c) 2 (r.held.map pceCells),slF (.slice Arh r.held.length Crh) 2 (r.held.map pceCells)]⟩ : St)) x.1) (fun x => (fun (j : Nat) => W - j) x.1) ⟨(i),⟨⟨Nat.le_refl _,by omega⟩,(by rw [Nat.sub_self]; simp)⟩⟩ (kF 4 0 [8,9,10,11,12,19,21,22,23]) ?_
 rintro ⟨j,hij,hrun⟩
 try dsimp only
 try dsimp only at hij hrun
 refine kS ?_
 refine kQ ?_
 refine kRS 4 [8,9,10,11,12,19,21,22,23,174] [(8,.p 1 0),(9,.p 2 0),(10,.v (.int .i64 (W : Int))),(11,.v (.pointer (some ⟨gd,0,none⟩))),(12,.v (.pointer (some ⟨gh,0,none⟩))),(19,.p 3 0),(21,.v (.int .i64 (n2 : Int))),(22,.v (.int .i64 (j : Int))),(23,.v (.int .i64 (i : Int))),(174,.v (.bool (decide ((j : Int) < (W : Int)))))] ?_
 refine kP 174 (decide ((j : Int) < (W : Int))) (fun h22 => ?_) (fun h22 => ?_)
 have h22p := of_decide_eq_true h22
 have hlt6 : j < W := by simp at h22; omega
 obtain ⟨y3,hy3⟩ : ∃ y,sl[j]? = some y := ⟨_,List.getElem?_eq_getElem (by omega)⟩
 refine kOD 0 [8,9,10,11,12,19,21,22,23,174] [(174,.v (.bool true))] (.slice (some ⟨g5,0,none⟩) W W) rfl (fun _ _ _ ww hr => ldP_run (off := 0) (B := w.heap.size) (g := gh) (T := 78) (cs := [.slice (some ⟨g5,0,none⟩) W W]) hr rfl (by kernel_rfl) (by simp) (by kernel_rfl)) ?_
 refine kOD 1 [8,9,10,11,12,19,21,22,23,174,175,176] [(176,.v (.int .i64 (j : Int)))] (.pointer (some ⟨g5,j * 1,none⟩)) rfl (fun _ _ _ ww hr => act_ix (kd := .i64) (T := 78) (e := 4) (K := 1) (g := g5) (N := W) (cap := W) j rfl hr.1 rfl rfl (by kernel_rfl) (by kernel_rfl) (by kernel_rfl) hlt6 ww) ?_
 refine kOD 0 [8,9,10,11,12,19,21,22,23,174,177] [] (.bool (decide (0 ≤ y3))) rfl (fun _ _ _ ww hr => ldR_run (po := 0) (j := j) (row := [.bool (decide (0 ≤ y3))]) (rowF w.heap.size 4 1 (.slice (some ⟨g5,0,none⟩) W W) ((hvOf W sl).map boolRow)) hr rfl (by kernel_rfl) (by simp) (by simp only [List.getElem?_map,hvOf_get hlt6 hy3]; rfl) (by kernel_rfl) rfl rfl rfl) ?_
 refine kED [8,9,10,11,12,19,21,22,23,179] [(179,.v (.bool (decide (0 ≤ y3))))] ?_
 refine kC (decide (0 ≤ y3)) (fun h23 => ?_) (fun h23 => ?_)
 have h23p := of_decide_eq_true h23
 have hy3p := of_decide_eq_true h23
 refine kK ?_
 refine xw_block ?_
 refine kG ?_
 refine kRS 3 [8,9,10,11,12,19,21,22,23] [(8,.p 1 0),(9,.p 2 0),(10,.v (.int .i64 (W : Int))),(11,.v (.pointer (some ⟨gd,0,none⟩))),(12,.v (.pointer (some ⟨gh,0,none⟩))),(19,.p 3 0),(21,.v (.int .i64 (n2 : Int))),(22,.v (.int .i64 (IntKind.i64.wrap ((j : Int) + 1)))),(23,.v (.int .i64 (i : Int)))] ?_
 refine xl_eqS (t' := [(8,.p 1 0),(9,.p 2 0),(10,.v (.int .i64 (W : Int))),(11,.v (.pointer (some ⟨gd,0,none⟩))),(12,.v (.pointer (some ⟨gh,0,none⟩))),(19,.p 3 0),(21,.v (.int .i64 (n2 : Int))),(22,.v (.int .i64 ((j : Int) + 1))),(23,.v (.int .i64 (i : Int)))]) (by rw [show (IntKind.i64.wrap ((j : Int) + 1)) = ((j : Int) + 1) from wrap_id (by omega) (by omega)]) ?_
 refine kED [8,9,10,11,12,19,21,22,23] [] ?_
 exact ⟨⟨(j + 1),⟨(by (try dsimp only); omega),run_more hij.1 hrun hy3 (by omega)⟩⟩,kF 4 0 [8,9,10,11,12,19,21,22,23],by show (fun (j : Nat) => W - j) (j + 1) < W - j; (dsimp only; omega)⟩
 have h23p := of_decide_eq_false h23
 have hy3p := of_decide_eq_false h23
 refine xw_exit ?_
 exact ⟨⟨(j),⟨(by first | omega | (have hne : i ≠ j := (fun e => (by subst e; rw [hy2] at hy3; simp only [Option.some.injEq] at hy3; omega)); omega)),hrun,(by first | exact fun z hz => by rw [hy3] at hz; simp only [Option.some.injEq] at hz; omega | exact fun z hz => by rw [hbe j (by omega) (by omega)] at hz; simp only [Option.some.injEq] at hz; omega)⟩⟩,kF 4 0 [8,9,10,11,12,19,21,22,23]⟩
 have h22p := of_decide_eq_false h22
 have hge6 : j = W := by simp at h22; omega
 refine kED [8,9,10,11,12,19,21,22,23,179] [(179,.v (.bool false))] ?_
 refine kN ?_
 refine xw_exit ?_
 exact ⟨⟨(j),⟨(by first | omega | (have hne : i ≠ j := (fun e => (by subst e; rw [hy2] at hy3; simp only [Option.some.injEq] at hy3; omega)); omega)),hrun,(by first | exact fun z hz => by rw [hy3] at hz; simp only [Option.some.injEq] at hz; omega | exact fun z hz => by rw [hbe j (by omega) (by omega)] at hz; simp only [Option.some.injEq] at hz; omega)⟩⟩,kF 4 0 [8,9,10,11,12,19,21,22,23]⟩
 rintro ⟨j,hij,hrun,hstop⟩
 try dsimp only
 try dsimp only at hij hrun hstop
 refine xw_joinE (α := Option Addr × Nat × Nat) (fun y => (fun (v27a : Option Addr) (v27c : Nat) (g25 : Nat) => (⟨[(8,.p 1 0),(9,.p 2 0),(10,.v (.int .i64 (W : Int))),(11,.v (.pointer (some ⟨gd,0,none⟩))),(12,.v (.pointer (some ⟨gh,0,none⟩))),(19,.p 3 0),(21,.v (.int .i64 (n2 : Int))),(22,.v (.int .i64 (j : Int)))],[⟨28,rcvL r (.slice Arh r.held.length Crh)⟩,⟨28,rcvZ⟩,⟨28,rcvL r (.slice v1a r.held.length v1c)⟩,⟨28,[.int .i64 (seqAdd r.next (n2 : Int)),.string (r.data ++ (bstr (sl.take n2))),.slice v27a ((out ++ ([⟨((i - n2 : Nat) : Int),bstr (((dtOf W sl).drop i).take (j - i))⟩] : List Pce)).length) v27c,.int .i64 fp,.bool r.done]⟩],[],[rowF w.heap.size 81 2 (.slice v27a ((out ++ ([⟨((i - n2 : Nat) : Int),bstr (((dtOf W sl).drop i).take (j - i))⟩] : List Pce)).length) v27c) ((out ++ ([⟨((i - n2 : Nat) : Int),bstr (((dtOf W sl).drop i).take (j - i))⟩] : List Pce)).map pceCells),rowF w.heap.size 81 2 (.slice (some ⟨g25,0,none⟩) 1 1) (([⟨((i - n2 : Nat) : Int),bstr (((dtOf W sl).drop i).take (j - i))⟩] : List Pce).map pceCells),cellF w.heap.size gh 78 [.slice (some ⟨g5,0,none⟩) W W],cellF w.heap.size gd 59 [.slice (some ⟨g4,0,none⟩) W W],rowF w.heap.size 4 1 (.slice (some ⟨g5,0,none⟩) W W) ((hvOf W sl).map boolRow),rowF w.heap.size 5 1 (.slice (some ⟨g4,0,none⟩) W W) ((dtOf W sl).map byteRow),ownF w.heap.size (.slice v1a r.held.length v1c) 2 (r.held.map pceCells),slF (.slice Arh r.held.length Crh) 2 (r.held.map pceCells)]⟩ : St)) y.1 y.2.1 y.2.2) ?_ ?_
 refine xe_region0 [true,true,true,false] (by kernel_rfl) (fun ρ σ => ?_)
 refine kTS [0,2,3,4,6,7] [189,188,186,182,8,9,10,11,12,19,21,22] 9 [(189,.v (.int .i64 (j : Int))),(188,.v (.int .i64 (i : Int))),(186,.v (.int .i64 (IntKind.i64.wrap ((i : Int) - (n2 : Int))))),(182,.p 3 2),(8,.p 1 0),(9,.p 2 0),(10,.v (.int .i64 (W : Int))),(11,.v (.pointer (some ⟨gd,0,none⟩))),(12,.v (.pointer (some ⟨gh,0,none⟩))),(19,.p 3 0),(21,.v (.int .i64 (n2 : Int))),(22,.v (.int .i64 (j : Int)))] ?_
 refine xe_eqS (t := [(189,.v (.int .i64 (j : Int))),(188,.v (.int .i64 (i : Int))),(186,.v (.int .i64 (IntKind.i64.wrap ((i : Int) - (n2 : Int))))),(182,.p 3 2),(8,.p 1 0),(9,.p 2 0),(10,.v (.int .i64 (W : Int))),(11,.v (.pointer (some ⟨gd,0,none⟩))),(12,.v (.pointer (some ⟨gh,0,none⟩))),(19,.p 3 0),(21,.v (.int .i64 (n2 : Int))),(22,.v (.int .i64 (j : Int)))]) (t' := [(189,.v (.int .i64 (j : Int))),(188,.v (.int .i64 (i : Int))),(186,.v (.int .i64 ((i - n2 : Nat) : Int))),(182,.p 3 2),(8,.p 1 0),(9,.p 2 0),(10,.v (.int .i64 (W : Int))),(11,.v (.pointer (some ⟨gd,0,none⟩))),(12,.v (.pointer (some ⟨gh,0,none⟩))),(19,.p 3 0),(21,.v (.int .i64 (n2 : Int))),(22,.v (.int .i64 (j : Int)))]) (by rw [show (IntKind.i64.wrap ((i : Int) - (n2 : Int))) = ((i - n2 : Nat) : Int) from by rw [wrap_id (by omega) (by omega)]; omega]) ?_
 refine kA [1,5] ⟨?_,?_⟩
 refine kSV 1 (.v (.slice A1 out.length c1)) rfl ?_
 refine kA [5] ?_
 refine kSR 5 (.slice (some ⟨g4,0,none⟩) W W) rfl (fun _ _ ww hr => ldP_run (off := 0) (B := w.heap.size) (g := gd) (T := 59) (cs := [.slice (some ⟨g4,0,none⟩) W W]) hr rfl (by kernel_rfl) (by simp) (by kernel_rfl)) ?_
 refine kA [8] ?_
 refine kSR 8 (.slice (if W = i then (some ⟨g4,0,none⟩ : Option Addr) else (some ⟨g4,0,none⟩ : Option Addr).map (·.add (i * 1))) (j - i) (W - i)) rfl (fun _ _ ww hr => act_slV (e := 5) (A := some ⟨g4,0,none⟩) (len := W) (cap := W) (K := 1) (k := .i64) (p' := (i : Int)) (k' := .i64) (q' := (j : Int)) i j hr.1 rfl (by kernel_rfl) (by kernel_rfl) (by kernel_rfl) (by kernel_rfl) (by kernel_rfl) rfl rfl (by omega) (Nat.le_trans (show j ≤ W by omega) (Sl.capLe (rowF_sl (hr.2.fact (rowF w.heap.size 5 1 (.slice (some ⟨g4,0,none⟩) W W) ((dtOf W sl).map byteRow)) (by simp)).1))) ww) ?_
 refine kA [9] ?_
 refine kSR 9 (.string (bstr (((dtOf W sl).drop i).take (j - i)))) rfl (fun _ _ ww hr => act_b2s (e := 5) (((dtOf W sl).drop i).take (j - i)) hr.1 rfl (by kernel_rfl) (by kernel_rfl) (by kernel_rfl) rfl (Sl.partM (rowF_sl (hr.2.fact (rowF w.heap.size 5 1 (.slice (some ⟨g4,0,none⟩) W W) ((dtOf W sl).map byteRow)) (by simp)).1) i j (by omega) (by omega))) ?_
 refine kX 10 (.agg (pceL (⟨((i - n2 : Nat) : Int),bstr (((dtOf W sl).drop i).take (j - i))⟩ : Pce)).toArray) rfl (fun _ _ ww hA => act_build [(0,.int .i64 ((i - n2 : Nat) : Int)),(1,.string (bstr (((dtOf W sl).drop i).take (j - i))))] hA rfl (by kernel_rfl) (by kernel_rfl) ww) ?_
 refine kA [11] ?_
 refine kSH 11 rfl (under_t (under_t (under_t (under_f rfl under_nil)))) (hv_build (e := 81) (K := 2) (bytes := 24) [.agg (pceL (⟨((i - n2 : Nat) : Int),bstr (((dtOf W sl).drop i).take (j - i))⟩ : Pce)).toArray] rfl (by kernel_rfl) (by kernel_rfl) (by kernel_rfl) (by kernel_rfl) (by kernel_rfl) (rs := ([⟨((i - n2 : Nat) : Int),bstr (((dtOf W sl).drop i).take (j - i))⟩] : List Pce).map pceCells) rfl) ?_
 intro g25
 refine kA [12] ?_
 refine kSH 12 rfl (under_t (under_t (under_t (under_f rfl under_nil)))) (hv_append (e := 81) (K := 2) (bytes := 24) (i := 1) (q := (out ++ ([⟨((i - n2 : Nat) : Int),bstr (((dtOf W sl).drop i).take (j - i))⟩] : List Pce)).length) (new := ([⟨((i - n2 : Nat) : Int),bstr (((dtOf W sl).drop i).take (j - i))⟩] : List Pce).map pceCells) (rs' := (out ++ ([⟨((i - n2 : Nat) : Int),bstr (((dtOf W sl).drop i).take (j - i))⟩] : List Pce)).map pceCells) rfl rfl rfl rfl (by kernel_rfl) (by kernel_rfl) (by kernel_rfl) rfl (by first | (simp; done) | (simp; omega)) (by rw [List.map_append]) (by first | (simp; done) | (simp; omega)) (fun ww hf => (rowF_sl (hf (rowF w.heap.size 81 2 (.slice (some ⟨g25,0,none⟩) 1 1) (([⟨((i - n2 : Nat) : Int),bstr (((dtOf W sl).drop i).take (j - i))⟩] : List Pce).map pceCells)) (by simp)))) (by intro r hr; obtain ⟨x,hx,rfl⟩ := List.mem_map.1 hr; exact ⟨rfl,by simp [pceCells,Value.oneCell']⟩) (by (try simp only [List.length_map,List.length_append,List.length_cons,List.length_nil,List.length_take,List.length_drop,maxLen]); omega) (by (try simp only [List.length_map,List.length_append,List.length_cons,List.length_nil,List.length_take,List.length_drop,maxLen]); omega)) ?_
 rintro ⟨v27a,v27c⟩
 refine kTS [13] [195,194,8,9,10,11,12,19,21,22] 1 [(195,.p 3 2),(194,.v (.slice v27a ((out ++ ([⟨((i - n2 : Nat) : Int),bstr (((dtOf W sl).drop i).take (j - i))⟩] : List Pce)).length) v27c)),(8,.p 1 0),(9,.p 2 0),(10,.v (.int .i64 (W : Int))),(11,.v (.pointer (some ⟨gd,0,none⟩))),(12,.v (.pointer (some ⟨gh,0,none⟩))),(19,.p 3 0),(21,.v (.int .i64 (n2 : Int))),(22,.v (.int .i64 (j : Int)))] ?_
 refine kA [14] ?_
 refine kSS 14 3 2 [.slice v27a ((out ++ ([⟨((i - n2 : Nat) : Int),bstr (((dtOf W sl).drop i).take (j - i))⟩] : List Pce)).length) v27c] rfl ?_
 refine kZ ?_
 exact ⟨(v27a,v27c,g25),kF 4 0 [8,9,10,11,12,19,21,22]⟩
 refine kSR 5 (.slice (some ⟨g4,0,none⟩) W W) rfl (fun _ _ ww hr => ldP_run (off := 0) (B := w.heap.size) (g := gd) (T := 59) (cs := [.slice (some ⟨g4,0,none⟩) W W]) hr rfl (by kernel_rfl) (by simp) (by kernel_rfl)) ?_
 refine kA [1,8] ⟨?_,?_⟩
 refine kSV 1 (.v (.slice A1 out.length c1)) rfl ?_
 refine kA [8] ?_
 refine kSR 8 (.slice (if W = i then (some ⟨g4,0,none⟩ : Option Addr) else (some ⟨g4,0,none⟩ : Option Addr).map (·.add (i * 1))) (j - i) (W - i)) rfl (fun _ _ ww hr => act_slV (e := 5) (A := some ⟨g4,0,none⟩) (len := W) (cap := W) (K := 1) (k := .i64) (p' := (i : Int)) (k' := .i64) (q' := (j : Int)) i j hr.1 rfl (by kernel_rfl) (by kernel_rfl) (by kernel_rfl) (by kernel_rfl) (by kernel_rfl) rfl rfl (by omega) (Nat.le_trans (show j ≤ W by omega) (Sl.capLe (rowF_sl (hr.2.fact (rowF w.heap.size 5 1 (.slice (some ⟨g4,0,none⟩) W W) ((dtOf W sl).map byteRow)) (by simp)).1))) ww) ?_
 refine kA [9] ?_
 refine kSR 9 (.string (bstr (((dtOf W sl).drop i).take (j - i)))) rfl (fun _ _ ww hr => act_b2s (e := 5) (((dtOf W sl).drop i).take (j - i)) hr.1 rfl (by kernel_rfl) (by kernel_rfl) (by kernel_rfl) rfl (Sl.partM (rowF_sl (hr.2.fact (rowF w.heap.size 5 1 (.slice (some ⟨g4,0,none⟩) W W) ((dtOf W sl).map byteRow)) (by simp)).1) i j (by omega) (by omega))) ?_
 refine kX 10 (.agg (pceL (⟨((i - n2 : Nat) : Int),bstr (((dtOf W sl).drop i).take (j - i))⟩ : Pce)).toArray) rfl (fun _ _ ww hA => act_build [(0,.int .i64 ((i - n2 : Nat) : Int)),(1,.string (bstr (((dtOf W sl).drop i).take (j - i))))] hA rfl (by kernel_rfl) (by kernel_rfl) ww) ?_
 refine kA [11] ?_
 refine kSH 11 rfl (under_t (under_t (under_t (under_f rfl under_nil)))) (hv_build (e := 81) (K := 2) (bytes := 24) [.agg (pceL (⟨((i - n2 : Nat) : Int),bstr (((dtOf W sl).drop i).take (j - i))⟩ : Pce)).toArray] rfl (by kernel_rfl) (by kernel_rfl) (by kernel_rfl) (by kernel_rfl) (by kernel_rfl) (rs := ([⟨((i - n2 : Nat) : Int),bstr (((dtOf W sl).drop i).take (j - i))⟩] : List Pce).map pceCells) rfl) ?_
 intro g29
 refine kA [12] ?_
 refine kSH 12 rfl (under_t (under_t (under_t (under_f rfl under_nil)))) (hv_append (e := 81) (K := 2) (bytes := 24) (i := 1) (q := (out ++ ([⟨((i - n2 : Nat) : Int),bstr (((dtOf W sl).drop i).take (j - i))⟩] : List Pce)).length) (new := ([⟨((i - n2 : Nat) : Int),bstr (((dtOf W sl).drop i).take (j - i))⟩] : List Pce).map pceCells) (rs' := (out ++ ([⟨((i - n2 : Nat) : Int),bstr (((dtOf W sl).drop i).take (j - i))⟩] : List Pce)).map pceCells) rfl rfl rfl rfl (by kernel_rfl) (by kernel_rfl) (by kernel_rfl) rfl (by first | (simp; done) | (simp; omega)) (by rw [List.map_append]) (by first | (simp; done) | (simp; omega)) (fun ww hf => (rowF_sl (hf (rowF w.heap.size 81 2 (.slice (some ⟨g29,0,none⟩) 1 1) (([⟨((i - n2 : Nat) : Int),bstr (((dtOf W sl).drop i).take (j - i))⟩] : List Pce).map pceCells)) (by simp)))) (by intro r hr; obtain ⟨x,hx,rfl⟩ := List.mem_map.1 hr; exact ⟨rfl,by simp [pceCells,Value.oneCell']⟩) (by (try simp only [List.length_map,List.length_append,List.length_cons,List.length_nil,List.length_take,List.length_drop,maxLen]); omega) (by (try simp only [List.length_map,List.length_append,List.length_cons,List.length_nil,List.length_take,List.length_drop,maxLen]); omega)) ?_
 rintro ⟨v31a,v31c⟩
 refine kTS [13] [195,194,8,9,10,11,12,19,21,22] 1 [(195,.p 3 2),(194,.v (.slice v31a ((out ++ ([⟨((i - n2 : Nat) : Int),bstr (((dtOf W sl).drop i).take (j - i))⟩] : List Pce)).length) v31c)),(8,.p 1 0),(9,.p 2 0),(10,.v (.int .i64 (W : Int))),(11,.v (.pointer (some ⟨gd,0,none⟩))),(12,.v (.pointer (some ⟨gh,0,none⟩))),(19,.p 3 0),(21,.v (.int .i64 (n2 : Int))),(22,.v (.int .i64 (j : Int)))] ?_
 refine kA [14] ?_
 refine kSS 14 3 2 [.slice v31a ((out ++ ([⟨((i - n2 : Nat) : Int),bstr (((dtOf W sl).drop i).take (j - i))⟩] : List Pce)).length) v31c] rfl ?_
 refine kZ ?_
 exact ⟨(v31a,v31c,g29),kF 4 0 [8,9,10,11,12,19,21,22]⟩
 refine kSR 8 (.slice (if W = i then (some ⟨g4,0,none⟩ : Option Addr) else (some ⟨g4,0,none⟩ : Option Addr).map (·.add (i * 1))) (j - i) (W - i)) rfl (fun _ _ ww hr => act_slV (e := 5) (A := some ⟨g4,0,none⟩) (len := W) (cap := W) (K := 1) (k := .i64) (p' := (i : Int)) (k' := .i64) (q' := (j : Int)) i j hr.1 rfl (by kernel_rfl) (by kernel_rfl) (by kernel_rfl) (by kernel_rfl) (by kernel_rfl) rfl rfl (by omega) (Nat.le_trans (show j ≤ W by omega) (Sl.capLe (rowF_sl (hr.2.fact (rowF w.heap.size 5 1 (.slice (some ⟨g4,0,none⟩) W W) ((dtOf W sl).map byteRow)) (by simp)).1))) ww) ?_
 refine kA [1,9] ⟨?_,?_⟩
 refine kSV 1 (.v (.slice A1 out.length c1)) rfl ?_
 refine kA [9] ?_
 refine kSR 9 (.string (bstr (((dtOf W sl).drop i).take (j - i)))) rfl (fun _ _ ww hr => act_b2s (e := 5) (((dtOf W sl).drop i).take (j - i)) hr.1 rfl (by kernel_rfl) (by kernel_rfl) (by kernel_rfl) rfl (Sl.partM (rowF_sl (hr.2.fact (rowF w.heap.size 5 1 (.slice (some ⟨g4,0,none⟩) W W) ((dtOf W sl).map byteRow)) (by simp)).1) i j (by omega) (by omega))) ?_
 refine kX 10 (.agg (pceL (⟨((i - n2 : Nat) : Int),bstr (((dtOf W sl).drop i).take (j - i))⟩ : Pce)).toArray) rfl (fun _ _ ww hA => act_build [(0,.int .i64 ((i - n2 : Nat) : Int)),(1,.string (bstr (((dtOf W sl).drop i).take (j - i))))] hA rfl (by kernel_rfl) (by kernel_rfl) ww) ?_
 refine kA [11] ?_
 refine kSH 11 rfl (under_t (under_t (under_t (under_f rfl under_nil)))) (hv_build (e := 81) (K := 2) (bytes := 24) [.agg (pceL (⟨((i - n2 : Nat) : Int),bstr (((dtOf W sl).drop i).take (j - i))⟩ : Pce)).toArray] rfl (by kernel_rfl) (by kernel_rfl) (by kernel_rfl) (by kernel_rfl) (by kernel_rfl) (rs := ([⟨((i - n2 : Nat) : Int),bstr (((dtOf W sl).drop i).take (j - i))⟩] : List Pce).map pceCells) rfl) ?_
 intro g33
 refine kA [12] ?_
 refine kSH 12 rfl (under_t (under_t (under_t (under_f rfl under_nil)))) (hv_append (e := 81) (K := 2) (bytes := 24) (i := 1) (q := (out ++ ([⟨((i - n2 : Nat) : Int),bstr (((dtOf W sl).drop i).take (j - i))⟩] : List Pce)).length) (new := ([⟨((i - n2 : Nat) : Int),bstr (((dtOf W sl).drop i).take (j - i))⟩] : List Pce).map pceCells) (rs' := (out ++ ([⟨((i - n2 : Nat) : Int),bstr (((dtOf W sl).drop i).take (j - i))⟩] : List Pce)).map pceCells) rfl rfl rfl rfl (by kernel_rfl) (by kernel_rfl) (by kernel_rfl) rfl (by first | (simp; done) | (simp; omega)) (by rw [List.map_append]) (by first | (simp; done) | (simp; omega)) (fun ww hf => (rowF_sl (hf (rowF w.heap.size 81 2 (.slice (some ⟨g33,0,none⟩) 1 1) (([⟨((i - n2 : Nat) : Int),bstr (((dtOf W sl).drop i).take (j - i))⟩] : List Pce).map pceCells)) (by simp)))) (by intro r hr; obtain ⟨x,hx,rfl⟩ := List.mem_map.1 hr; exact ⟨rfl,by simp [pceCells,Value.oneCell']⟩) (by (try simp only [List.length_map,List.length_append,List.length_cons,List.length_nil,List.length_take,List.length_drop,maxLen]); omega) (by (try simp only [List.length_map,List.length_append,List.length_cons,List.length_nil,List.length_take,List.length_drop,maxLen]); omega)) ?_
 rintro ⟨v35a,v35c⟩
 refine kTS [13] [195,194,8,9,10,11,12,19,21,22] 1 [(195,.p 3 2),(194,.v (.slice v35a ((out ++ ([⟨((i - n2 : Nat) : Int),bstr (((dtOf W sl).drop i).take (j - i))⟩] : List Pce)).length) v35c)),(8,.p 1 0),(9,.p 2 0),(10,.v (.int .i64 (W : Int))),(11,.v (.pointer (some ⟨gd,0,none⟩))),(12,.v (.pointer (some ⟨gh,0,none⟩))),(19,.p 3 0),(21,.v (.int .i64 (n2 : Int))),(22,.v (.int .i64 (j : Int)))] ?_
 refine kA [14] ?_
 refine kSS 14 3 2 [.slice v35a ((out ++ ([⟨((i - n2 : Nat) : Int),bstr (((dtOf W sl).drop i).take (j - i))⟩] : List Pce)).length) v35c] rfl ?_
 refine kZ ?_
 exact ⟨(v35a,v35c,g33),kF 4 0 [8,9,10,11,12,19,21,22]⟩
 refine kSR 9 (.string (bstr (((dtOf W sl).drop i).take (j - i)))) rfl (fun _ _ ww hr => act_b2s (e := 5) (((dtOf W sl).drop i).take (j - i)) hr.1 rfl (by kernel_rfl) (by kernel_rfl) (by kernel_rfl) rfl (Sl.partM (rowF_sl (hr.2.fact (rowF w.heap.size 5 1 (.slice (some ⟨g4,0,none⟩) W W) ((dtOf W sl).map byteRow)) (by simp)).1) i j (by omega) (by omega))) ?_
 refine kX 10 (.agg (pceL (⟨((i - n2 : Nat) : Int),bstr (((dtOf W sl).drop i).take (j - i))⟩ : Pce)).toArray) rfl (fun _ _ ww hA => act_build [(0,.int .i64 ((i - n2 : Nat) : Int)),(1,.string (bstr (((dtOf W sl).drop i).take (j - i))))] hA rfl (by kernel_rfl) (by kernel_rfl) ww) ?_
 refine kA [1,11] ⟨?_,?_⟩
 refine kSV 1 (.v (.slice A1 out.length c1)) rfl ?_
 refine kA [11] ?_
 refine kSH 11 rfl (under_t (under_t (under_t (under_f rfl under_nil)))) (hv_build (e := 81) (K := 2) (bytes := 24) [.agg (pceL (⟨((i - n2 : Nat) : Int),bstr (((dtOf W sl).drop i).take (j - i))⟩ : Pce)).toArray] rfl (by kernel_rfl) (by kernel_rfl) (by kernel_rfl) (by kernel_rfl) (by kernel_rfl) (rs := ([⟨((i - n2 : Nat) : Int),bstr (((dtOf W sl).drop i).take (j - i))⟩] : List Pce).map pceCells) rfl) ?_
 intro g38
 refine kA [12] ?_
 refine kSH 12 rfl (under_t (under_t (under_t (under_f rfl under_nil)))) (hv_append (e := 81) (K := 2) (bytes := 24) (i := 1) (q := (out ++ ([⟨((i - n2 : Nat) : Int),bstr (((dtOf W sl).drop i).take (j - i))⟩] : List Pce)).length) (new := ([⟨((i - n2 : Nat) : Int),bstr (((dtOf W sl).drop i).take (j - i))⟩] : List Pce).map pceCells) (rs' := (out ++ ([⟨((i - n2 : Nat) : Int),bstr (((dtOf W sl).drop i).take (j - i))⟩] : List Pce)).map pceCells) rfl rfl rfl rfl (by kernel_rfl) (by kernel_rfl) (by kernel_rfl) rfl (by first | (simp; done) | (simp; omega)) (by rw [List.map_append]) (by first | (simp; done) | (simp; omega)) (fun ww hf => (rowF_sl (hf (rowF w.heap.size 81 2 (.slice (some ⟨g38,0,none⟩) 1 1) (([⟨((i - n2 : Nat) : Int),bstr (((dtOf W sl).drop i).take (j - i))⟩] : List Pce).map pceCells)) (by simp)))) (by intro r hr; obtain ⟨x,hx,rfl⟩ := List.mem_map.1 hr; exact ⟨rfl,by simp [pceCells,Value.oneCell']⟩) (by (try simp only [List.length_map,List.length_append,List.length_cons,List.length_nil,List.length_take,List.length_drop,maxLen]); omega) (by (try simp only [List.length_map,List.length_append,List.length_cons,List.length_nil,List.length_take,List.length_drop,maxLen]); omega)) ?_
 rintro ⟨v40a,v40c⟩
 refine kTS [13] [195,194,8,9,10,11,12,19,21,22] 1 [(195,.p 3 2),(194,.v (.slice v40a ((out ++ ([⟨((i - n2 : Nat) : Int),bstr (((dtOf W sl).drop i).take (j - i))⟩] : List Pce)).length) v40c)),(8,.p 1 0),(9,.p 2 0),(10,.v (.int .i64 (W : Int))),(11,.v (.pointer (some ⟨gd,0,none⟩))),(12,.v (.pointer (some ⟨gh,0,none⟩))),(19,.p 3 0),(21,.v (.int .i64 (n2 : Int))),(22,.v (.int .i64 (j : Int)))] ?_
 refine kA [14] ?_
 refine kSS 14 3 2 [.slice v40a ((out ++ ([⟨((i - n2 : Nat) : Int),bstr (((dtOf W sl).drop i).take (j - i))⟩] : List Pce)).length) v40c] rfl ?_
 refine kZ ?_
 exact ⟨(v40a,v40c,g38),kF 4 0 [8,9,10,11,12,19,21,22]⟩
 refine kSH 11 rfl (under_t (under_t (under_t (under_f rfl under_nil)))) (hv_build (e := 81) (K := 2) (bytes := 24) [.agg (pceL (⟨((i - n2 : Nat) : Int),bstr (((dtOf W sl).drop i).take (j - i))⟩ : Pce)).toArray] rfl (by kernel_rfl) (by kernel_rfl) (by kernel_rfl) (by kernel_rfl) (by kernel_rfl) (rs := ([⟨((i - n2 : Nat) : Int),bstr (((dtOf W sl).drop i).take (j - i))⟩] : List Pce).map pceCells) rfl) ?_
 intro g41
 refine kA [1] ?_
 refine kSV 1 (.v (.slice A1 out.length c1)) rfl ?_
 refine kA [12] ?_
 refine kSH 12 rfl (under_t (under_t (under_t (under_f rfl under_nil)))) (hv_append (e := 81) (K := 2) (bytes := 24) (i := 1) (q := (out ++ ([⟨((i - n2 : Nat) : Int),bstr (((dtOf W sl).drop i).take (j - i))⟩] : List Pce)).length) (new := ([⟨((i - n2 : Nat) : Int),bstr (((dtOf W sl).drop i).take (j - i))⟩] : List Pce).map pceCells) (rs' := (out ++ ([⟨((i - n2 : Nat) : Int),bstr (((dtOf W sl).drop i).take (j - i))⟩] : List Pce)).map pceCells) rfl rfl rfl rfl (by kernel_rfl) (by kernel_rfl) (by kernel_rfl) rfl (by first | (simp; done) | (simp; omega)) (by rw [List.map_append]) (by first | (simp; done) | (simp; omega)) (fun ww hf => (rowF_sl (hf (rowF w.heap.size 81 2 (.slice (some ⟨g41,0,none⟩) 1 1) (([⟨((i - n2 : Nat) : Int),bstr (((dtOf W sl).drop i).take (j - i))⟩] : List Pce).map pceCells)) (by simp)))) (by intro r hr; obtain ⟨x,hx,rfl⟩ := List.mem_map.1 hr; exact ⟨rfl,by simp [pceCells,Value.oneCell']⟩) (by (try simp only [List.length_map,List.length_append,List.length_cons,List.length_nil,List.length_take,List.length_drop,maxLen]); omega) (by (try simp only [List.length_map,List.length_append,List.length_cons,List.length_nil,List.length_take,List.length_drop,maxLen]); omega)) ?_
 rintro ⟨v43a,v43c⟩
 refine kTS [13] [195,194,8,9,10,11,12,19,21,22] 1 [(195,.p 3 2),(194,.v (.slice v43a ((out ++ ([⟨((i - n2 : Nat) : Int),bstr (((dtOf W sl).drop i).take (j - i))⟩] : List Pce)).length) v43c)),(8,.p 1 0),(9,.p 2 0),(10,.v (.int .i64 (W : Int))),(11,.v (.pointer (some ⟨gd,0,none⟩))),(12,.v (.pointer (some ⟨gh,0,none⟩))),(19,.p 3 0),(21,.v (.int .i64 (n2 : Int))),(22,.v (.int .i64 (j : Int)))] ?_
 refine kA [14] ?_
 refine kSS 14 3 2 [.slice v43a ((out ++ ([⟨((i - n2 : Nat) : Int),bstr (((dtOf W sl).drop i).take (j - i))⟩] : List Pce)).length) v43c] rfl ?_
 refine kZ ?_
 exact ⟨(v43a,v43c,g41),kF 4 0 [8,9,10,11,12,19,21,22]⟩
 rintro ⟨v27a,v27c,g25⟩
 exact ⟨⟨(j,(out ++ ([⟨((i - n2 : Nat) : Int),bstr (((dtOf W sl).drop i).take (j - i))⟩] : List Pce)),v27a,v27c),⟨(by (try dsimp only); omega),(by rw [dt_part (by omega) hrun,HP]; exact pcs_piece (by omega) hij.1 (by omega) hrun (htc y2 hy2 (by omega))),(bd_more hbd (by omega) (by rw [bstr_size,List.length_take,List.length_drop,dtOf_len (by omega)]; omega)),(fun x hx h0 => by have := hstop x hx; omega),(by (try dsimp only); (try simp only [List.length_append,List.length_cons,List.length_nil]); omega)⟩⟩,(wk_pick [0,2,3,4,5,6,7] [rowF w.heap.size 81 2 (.slice v27a ((out ++ ([⟨((i - n2 : Nat) : Int),bstr (((dtOf W sl).drop i).take (j - i))⟩] : List Pce)).length) v27c) ((out ++ ([⟨((i - n2 : Nat) : Int),bstr (((dtOf W sl).drop i).take (j - i))⟩] : List Pce)).map pceCells),cellF w.heap.size gh 78 [.slice (some ⟨g5,0,none⟩) W W],cellF w.heap.size gd 59 [.slice (some ⟨g4,0,none⟩) W W],rowF w.heap.size 4 1 (.slice (some ⟨g5,0,none⟩) W W) ((hvOf W sl).map boolRow),rowF w.heap.size 5 1 (.slice (some ⟨g4,0,none⟩) W W) ((dtOf W sl).map byteRow),ownF w.heap.size (.slice v1a r.held.length v1c) 2 (r.held.map pceCells),slF (.slice Arh r.held.length Crh) 2 (r.held.map pceCells)] (by kernel_rfl) (by kernel_rfl)).trans <| kF 4 0 [8,9,10,11,12,19,21,22],by show (fun (i : Nat) (out : List Pce) (A1 : Option Addr) (c1 : Nat) => W - i) j (out ++ ([⟨((i - n2 : Nat) : Int),bstr (((dtOf W sl).drop i).take (j - i))⟩] : List Pce)) v27a v27c < W - i; (dsimp only; omega)⟩
 have h20p := of_decide_eq_false h20
 have hge5 : i = W := by simp at h20; omega
 have hpc : pcs [] 0 (sl.drop n2) = out := by rw [HP,hge5]; exact pcs_neg out _ _ (beyond_neg hbe hl)
 refine xw_exit ?_
 refine kS ?_
 refine kQ ?_
 refine kED [8,9,19,199] [(199,.v (.bool (decide (((out.length : Nat) : Int) > 3))))] ?_
 refine kC (decide (((out.length : Nat) : Int) > 3)) (fun h44 => ?_) (fun h44 => ?_)
 have h44p := of_decide_eq_true h44
 refine kQ ?_
 refine kEU [8] [(8,.p 1 0)] 1 ⟨28,rcvL r (.slice v1a r.held.length v1c)⟩ ?_
 refine kR ?_
 have hmod : arrived r seq text fin = r := by first | exact arrived_over hrk (by assumption) (by rw [← hall,← hnf,hpc]; omega) | (unfold arrived; rw [if_neg (by grind)]; done) | (unfold arrived; rw [if_pos (by grind),← hall,← hnf,hpc,← hfp]; first | (rw [if_pos (by omega)]; done) | (rw [if_neg (by omega),if_pos (by first | omega | simp_all)]; done) | (rw [if_neg (by omega),if_neg (by first | omega | simp_all)]; done))
 exact ⟨[.agg (rcvL r (.slice v1a r.held.length v1c)).toArray],by kernel_rfl,fun w' hb hf ha => by rw [hmod]; exact xo1 ((v1a,v1c)) rfl rfl (pO (hf _ m5) hB) hb⟩
 have h44p := of_decide_eq_false h44
 refine kK ?_
 refine kS ?_
 refine kQ ?_
 refine kED [8,19,203] [(203,.v (.bool (fp == 0)))] ?_
 refine kC (fp == 0) (fun h45 => ?_) (fun h45 => ?_)
 have h45p := eqT h45
 refine kQ ?_
 refine kEU [8,19] [] 3 ⟨28,[.int .i64 (seqAdd r.next (n2 : Int)),.string (r.data ++ (bstr (sl.take n2))),.slice A1 out.length c1,.int .i64 fp,.bool true]⟩ ?_
 refine kQ ?_
 refine kEU [8,19] [] 3 ⟨28,[.int .i64 (seqAdd r.next (n2 : Int)),.string (r.data ++ (bstr (sl.take n2))),.slice A1 out.length c1,.int .i64 (-1),.bool true]⟩ ?_
 refine kG ?_
 refine kCD 2 [8,19,207] [(207,.v (.int .i64 (seqAdd r.next (n2 : Int))))] 26 [.int .i64 (seqAdd r.next (n2 : Int)),.int .i64 1] (some 208) rfl (xc_s fun ww hf => iSeqAdd_c (seqAdd r.next (n2 : Int)) 1 ww ) ?_
 intro _
 refine kEF [8,19] ⟨[(8,.p 1 0),(19,.p 3 0)],[⟨28,rcvL r (.slice Arh r.held.length Crh)⟩,⟨28,rcvZ⟩,⟨28,rcvL r (.slice v1a r.held.length v1c)⟩,⟨28,[.int .i64 (seqAdd (seqAdd r.next (n2 : Int)) 1),.string (r.data ++ (bstr (sl.take n2))),.slice A1 out.length c1,.int .i64 (-1),.bool true]⟩],[],[rowF w.heap.size 81 2 (.slice A1 out.length c1) (out.map pceCells),cellF w.heap.size gh 78 [.slice (some ⟨g5,0,none⟩) W W],cellF w.heap.size gd 59 [.slice (some ⟨g4,0,none⟩) W W],rowF w.heap.size 4 1 (.slice (some ⟨g5,0,none⟩) W W) ((hvOf W sl).map boolRow),rowF w.heap.size 5 1 (.slice (some ⟨g4,0,none⟩) W W) ((dtOf W sl).map byteRow),ownF w.heap.size (.slice v1a r.held.length v1c) 2 (r.held.map pceCells),slF (.slice Arh r.held.length Crh) 2 (r.held.map pceCells)]⟩ ?_
 refine kQ ?_
 refine kEU [8] [(8,.p 1 0)] 1 ⟨28,[.int .i64 (seqAdd (seqAdd r.next (n2 : Int)) 1),.string (r.data ++ (bstr (sl.take n2))),.slice A1 out.length c1,.int .i64 (-1),.bool true]⟩ ?_
 refine kR ?_
 have hmod : arrived r seq text fin = (⟨seqAdd (seqAdd r.next (n2 : Int)) 1,r.data ++ (bstr (sl.take n2)),out,(-1),true⟩) := by first | exact arrived_over hrk (by assumption) (by rw [← hall,← hnf,hpc]; omega) | (unfold arrived; rw [if_neg (by grind)]; done) | (unfold arrived; rw [if_pos (by grind),← hall,← hnf,hpc,← hfp]; first | (rw [if_pos (by omega)]; done) | (rw [if_neg (by omega),if_pos (by first | omega | simp_all)]; done) | (rw [if_neg (by omega),if_neg (by first | omega | simp_all)]; done))
 exact ⟨[.agg #[.int .i64 (seqAdd (seqAdd r.next (n2 : Int)) 1),.string (r.data ++ (bstr (sl.take n2))),.slice A1 out.length c1,.int .i64 (-1),.bool true]],by kernel_rfl,fun w' hb hf ha => by rw [hmod]; exact xo1 ((A1,c1)) rfl rfl (pR (hf _ m0) hB) hb⟩
 have h45p := eqF h45
 refine kK ?_
 refine kQ ?_
 refine kEU [8] [(8,.p 1 0)] 1 ⟨28,[.int .i64 (seqAdd r.next (n2 : Int)),.string (r.data ++ (bstr (sl.take n2))),.slice A1 out.length c1,.int .i64 fp,.bool r.done]⟩ ?_
 refine kR ?_
 have hmod : arrived r seq text fin = (⟨seqAdd r.next (n2 : Int),r.data ++ (bstr (sl.take n2)),out,fp,r.done⟩) := by first | exact arrived_over hrk (by assumption) (by rw [← hall,← hnf,hpc]; omega) | (unfold arrived; rw [if_neg (by grind)]; done) | (unfold arrived; rw [if_pos (by grind),← hall,← hnf,hpc,← hfp]; first | (rw [if_pos (by omega)]; done) | (rw [if_neg (by omega),if_pos (by first | omega | simp_all)]; done) | (rw [if_neg (by omega),if_neg (by first | omega | simp_all)]; done))
 exact ⟨[.agg #[.int .i64 (seqAdd r.next (n2 : Int)),.string (r.data ++ (bstr (sl.take n2))),.slice A1 out.length c1,.int .i64 fp,.bool r.done]],by kernel_rfl,fun w' hb hf ha => by rw [hmod]; exact xo1 ((A1,c1)) rfl rfl (pR (hf _ m0) hB) hb⟩
theorem yiHeard_c (c : Con) (c_r_heldV : Value) (g : Seg) (w : World) (hl_c_r_heldV : Sl w c_r_heldV 2 (c.r.held.map pceCells)) (hkn : c.r.held.length ≤ 1048576)(hgz : g.body.size ≤ 1048576) (hm : ∀ p ∈ c.r.held, p.text.size ≤ 1048576) (hsz : c.r.data.size ≤ 4611686018427387904) (B : Nat) (hB : B ≤ w.heap.size) : Calls Try.prog 18 #[.agg (conL c c_r_heldV).toArray, .agg (segL g).toArray] w fun e w' => XRs w w' e (α := Option Addr × Nat) (fun y => .agg (conL (heard c g) (.slice y.1 ((heard c g).r.held.length) y.2)).toArray) (fun y => [ownF B (.slice y.1 ((heard c g).r.held.length) y.2) 2 ((heard c g).r.held.map pceCells)]) := by
 obtain ⟨Acrh,Ccrh,hvcrh⟩ := hl_c_r_heldV.form
 rw [List.length_map] at hvcrh; subst hvcrh
 have hncrh := hl_c_r_heldV.len; rw [List.length_map] at hncrh
 have hqcrh := Sl.capLe hl_c_r_heldV
 refine x_callsA (args := [.agg (conL c (.slice Acrh c.r.held.length Ccrh)).toArray,.agg (segL g).toArray]) (fn := Try.f18) [slF (.slice Acrh c.r.held.length Ccrh) 2 (c.r.held.map pceCells)] Try.func18 rfl Try.ntmps18 rfl (by simp only [List.mem_cons,List.not_mem_nil,or_false,forall_eq_or_imp,forall_eq]; exact ⟨rfl,hl_c_r_heldV⟩) ?_
 refine kQ ?_
 refine kEF [2,3,4] ⟨[(2,.p 0 0),(3,.p 1 0),(4,.p 2 0)],[⟨50,conL c (.slice Acrh c.r.held.length Ccrh)⟩,⟨54,segL g⟩,⟨50,conZ⟩],[],[slF (.slice Acrh c.r.held.length Ccrh) 2 (c.r.held.map pceCells)]⟩ ?_
 refine kS ?_
 refine kQ ?_
 refine kCD 2 [2,3,4,8,9] [(8,.v (.agg (conL c (.slice Acrh c.r.held.length Ccrh)).toArray)),(9,.v (.agg (segL g).toArray))] 61 [.agg (conL c (.slice Acrh c.r.held.length Ccrh)).toArray,.agg (segL g).toArray] (some 10) rfl (xc_b fun ww hf => yiVerdict_c c (.slice Acrh c.r.held.length Ccrh) g ww (hf _ m0) (by omega) (by assumption) (by omega)) ?_
 intro _
 refine kED [2,3,4,11] [(11,.v (.bool ((verdict c g) != 5)))] ?_
 refine kC ((verdict c g) != 5) (fun h1 => ?_) (fun h1 => ?_)
 have h1p := neT h1
 have hv5 : ¬ verdict c g = 5 := by simpa using h1
 refine kQ ?_
 refine kCD 1 [4,12] [(12,.v (.agg (conL c (.slice Acrh c.r.held.length Ccrh)).toArray))] 62 [.agg (conL c (.slice Acrh c.r.held.length Ccrh)).toArray] (some 13) rfl (xc_r fun ww hw hf => ycloneConn_c c (.slice Acrh c.r.held.length Ccrh) ww (hf _ m0) (by assumption) w.heap.size hw) ?_
 rintro ⟨v2a,v2c⟩
 refine kEU [4] [(4,.p 2 0)] 2 ⟨50,conL c (.slice v2a c.r.held.length v2c)⟩ ?_
 refine kR ?_
 have hmod : heard c g = c := by first | (unfold heard; rw [if_pos hv5,← hm5]; unfold heardR; rw [if_pos (by assumption)]; done) | (unfold heard; rw [if_pos hv5,← hm5]; unfold heardR; rw [if_pos (by unfold inB; simp [*]; done)]; done) | (unfold heard; rw [if_pos hv5,← hm5]; unfold heardR; rw [if_neg (by unfold inB; simp; omega),← hmr]; done) | (unfold heard; rw [if_neg hv5]; done)
 exact ⟨[.agg (conL c (.slice v2a c.r.held.length v2c)).toArray],by kernel_rfl,fun w' hb hf ha => by rw [hmod]; exact xo1 ((v2a,v2c)) rfl rfl (pO (hf _ m0) hB) hb⟩
 have h1p := neF h1
 have hv5 : verdict c g = 5 := by simpa using h1
 obtain ⟨hc1,hc2,hc3,-⟩ := verdict_fine hv5
 have hgw := segmentOk_w hc3
 have hsc := optionsOk_bd (conOk_r hc1).2.1
 have hfw := farW_bd hgw (conOk_r hc1).2.1
 refine kK ?_
 refine kQ ?_
 refine kCD 1 [2,3,4,14] [(14,.v (.agg (conL c (.slice Acrh c.r.held.length Ccrh)).toArray))] 62 [.agg (conL c (.slice Acrh c.r.held.length Ccrh)).toArray] (some 15) rfl (xc_r fun ww hw hf => ycloneConn_c c (.slice Acrh c.r.held.length Ccrh) ww (hf _ m0) (by assumption) w.heap.size hw) ?_
 rintro ⟨v3a,v3c⟩
 refine kEA [2,3,4,5] [(5,.p 3 0)] [⟨50,conL c (.slice v3a c.r.held.length v3c)⟩] ?_
 refine kS ?_
 refine xw_joinF (α := {zz : Con // (fun (m : Con) => m = heardMid c g) zz}) (fun zz => (fun (m : Con) => (⟨[(2,.p 0 0),(3,.p 1 0),(4,.p 2 0),(5,.p 3 0)],[⟨50,conL c (.slice Acrh c.r.held.length Ccrh)⟩,⟨54,segL g⟩,⟨50,conZ⟩,⟨50,conL m (.slice v3a m.r.held.length v3c)⟩],[],[ownF w.heap.size (.slice v3a m.r.held.length v3c) 2 (m.r.held.map pceCells),slF (.slice Acrh c.r.held.length Ccrh) 2 (c.r.held.map pceCells)]⟩ : St)) zz.1) ?_ ?_
 refine kQ ?_
 refine kCD 4 [2,3,4,5,18,20] [(18,.v (.agg (sndL c.s).toArray)),(20,.v (.int .i64 g.ack))] 63 [.agg (sndL c.s).toArray,.int .i64 g.ack] (some 21) rfl (xc_b fun ww hf => yiAcked_c c.s g.ack ww  ) ?_
 intro _
 refine kEA [2,3,4,5,6,7] [(6,.p 4 0),(7,.v (.bool ((acked c.s g.ack).2)))] [⟨47,sndL (acked c.s g.ack).1⟩] ?_
 refine kQ ?_
 refine kED [2,3,4,5,6,24] [(24,.v (.bool ((acked c.s g.ack).2)))] ?_
 refine kC ((acked c.s g.ack).2) (fun h4 => ?_) (fun h4 => ?_)
 refine kQ ?_
 refine kEU [2,3,4,5,6] [] 3 ⟨50,conL { c with s := (acked c.s g.ack).1 } (.slice v3a c.r.held.length v3c)⟩ ?_
 refine kQ ?_
 refine kCD 4 [2,3,4,5,6,28,30] [(28,.v (.int .i64 g.window)),(30,.v (.agg (optL c.o).toArray))] 64 [.int .i64 g.window,.agg (optL c.o).toArray] (some 31) rfl (xc_b fun ww hf => yiscaled_c g.window c.o ww  (by omega) (by (try dsimp only); omega)) ?_
 intro _
 refine kEU [2,3,4,5,6] [] 3 ⟨50,conL { c with s := (acked c.s g.ack).1,window := (farW g.window c.o) } (.slice v3a c.r.held.length v3c)⟩ ?_
 refine kQ ?_
 refine kOS 4 [2,3,4,5,6,34,36] [(2,.p 0 0),(3,.p 1 0),(4,.p 2 0),(5,.p 3 0),(6,.p 4 0),(34,.v (.int .i64 c.most)),(36,.v (.int .i64 (farW g.window c.o)))] (.int .i64 (max c.most (farW g.window c.o))) rfl (fun _ _ _ ww hr => act_max2 (k := .i64) (k' := .i64) (p := c.most) (q := (farW g.window c.o)) hr.1 rfl rfl rfl (by kernel_rfl) (by kernel_rfl) ww) ?_
 refine kEU [2,3,4,5,6] [] 3 ⟨50,conL { c with s := (acked c.s g.ack).1,window := (farW g.window c.o),most := max c.most (farW g.window c.o) } (.slice v3a c.r.held.length v3c)⟩ ?_
 refine kQ ?_
 refine kRD 7 [2,3,4,5,6,45] [(45,.v (.bool (((acked c.s g.ack).1.una) != c.s.una)))] ?_
 refine kP 45 (((acked c.s g.ack).1.una) != c.s.una) (fun h5 => ?_) (fun h5 => ?_)
 have h5p := neT h5
 refine kED [2,3,4,5,6,54] [(54,.v (.bool (c.state != 7)))] ?_
 refine kC (c.state != 7) (fun h6 => ?_) (fun h6 => ?_)
 have h6p := neT h6
 refine kQ ?_
 refine kEU [2,3,4,5,6] [] 3 ⟨50,conL { c with s := (acked c.s g.ack).1,window := (farW g.window c.o),most := max c.most (farW g.window c.o),tries := 0 } (.slice v3a c.r.held.length v3c)⟩ ?_
 refine kQ ?_
 refine kEU [2,3,4,5,6] [] 3 ⟨50,[.int .i64 c.t.ip,.int .i64 c.t.port,.int .i64 c.t.my,.int .i64 c.state,.int .i64 ((acked c.s g.ack).1.una),.string ((acked c.s g.ack).1.data),.int .i64 ((acked c.s g.ack).1.sent),.bool ((acked c.s g.ack).1.fin),.bool ((acked c.s g.ack).1.finSent),.bool ((acked c.s g.ack).1.done),.int .i64 c.r.next,.string c.r.data,.slice v3a c.r.held.length v3c,.int .i64 c.r.fin,.bool c.r.done,.int .i64 (farW g.window c.o),.int .i64 (max c.most (farW g.window c.o)),.int .i64 c.o.mss,.int .i64 c.o.scale,.bool c.o.sack,.bool c.o.stamp,.int .i64 c.o.val,.int .i64 c.o.echo,.int .i64 0,.int .i64 0]⟩ ?_
 refine kQ ?_
 refine kCD 1 [2,3,4,5,57] [(57,.v (.agg (sndL (acked c.s g.ack).1).toArray))] 65 [.agg (sndL (acked c.s g.ack).1).toArray] (some 58) rfl (xc_b fun ww hf => iFlown_c ((acked c.s g.ack).1.una) ((acked c.s g.ack).1.data) ((acked c.s g.ack).1.sent) ((acked c.s g.ack).1.fin) ((acked c.s g.ack).1.finSent) ((acked c.s g.ack).1.done) ww ) ?_
 intro _
 refine kED [2,3,4,5,59] [(59,.v (.bool (decide ((flown ((acked c.s g.ack).1)) > 0))))] ?_
 refine kC (decide ((flown ((acked c.s g.ack).1)) > 0)) (fun h7 => ?_) (fun h7 => ?_)
 have h7p := of_decide_eq_true h7
 refine kG ?_
 refine kEU [2,3,4,5] [] 3 ⟨50,[.int .i64 c.t.ip,.int .i64 c.t.port,.int .i64 c.t.my,.int .i64 c.state,.int .i64 ((acked c.s g.ack).1.una),.string ((acked c.s g.ack).1.data),.int .i64 ((acked c.s g.ack).1.sent),.bool ((acked c.s g.ack).1.fin),.bool ((acked c.s g.ack).1.finSent),.bool ((acked c.s g.ack).1.done),.int .i64 c.r.next,.string c.r.data,.slice v3a c.r.held.length v3c,.int .i64 c.r.fin,.bool c.r.done,.int .i64 (farW g.window c.o),.int .i64 (max c.most (farW g.window c.o)),.int .i64 c.o.mss,.int .i64 c.o.scale,.bool c.o.sack,.bool c.o.stamp,.int .i64 c.o.val,.int .i64 c.o.echo,.int .i64 3,.int .i64 0]⟩ ?_
 exact ⟨⟨(⟨c.t,c.state,(acked c.s g.ack).1,c.r,(farW g.window c.o),max c.most (farW g.window c.o),c.o,3,0⟩),(by unfold heardMid; first | (simp [*]; done) | grind)⟩,kF 4 0 [2,3,4,5]⟩
 have h7p := of_decide_eq_false h7
 refine kK ?_
 exact ⟨⟨(⟨c.t,c.state,(acked c.s g.ack).1,c.r,(farW g.window c.o),max c.most (farW g.window c.o),c.o,0,0⟩),(by unfold heardMid; first | (simp [*]; done) | grind)⟩,kF 4 0 [2,3,4,5]⟩
 have h6p := neF h6
 refine kK ?_
 exact ⟨⟨({ c with s := (acked c.s g.ack).1,window := (farW g.window c.o),most := max c.most (farW g.window c.o) }),(by unfold heardMid; first | (simp [*]; done) | grind)⟩,kF 4 0 [2,3,4,5]⟩
 have h5p := neF h5
 refine kCD 1 [2,3,4,5,6,45,46] [(45,.v (.bool false)),(46,.v (.agg (sndL (acked c.s g.ack).1).toArray))] 65 [.agg (sndL (acked c.s g.ack).1).toArray] (some 47) rfl (xc_b fun ww hf => iFlown_c ((acked c.s g.ack).1.una) ((acked c.s g.ack).1.data) ((acked c.s g.ack).1.sent) ((acked c.s g.ack).1.fin) ((acked c.s g.ack).1.finSent) ((acked c.s g.ack).1.done) ww ) ?_
 intro _
 refine kRD 3 [2,3,4,5,6,50] [(50,.v (.bool ((flown ((acked c.s g.ack).1)) == 0)))] ?_
 refine kP 50 ((flown ((acked c.s g.ack).1)) == 0) (fun h8 => ?_) (fun h8 => ?_)
 have h8p := eqT h8
 refine kED [2,3,4,5,6,54] [(54,.v (.bool (c.state != 7)))] ?_
 refine kC (c.state != 7) (fun h9 => ?_) (fun h9 => ?_)
 have h9p := neT h9
 refine kQ ?_
 refine kEU [2,3,4,5,6] [] 3 ⟨50,conL { c with s := (acked c.s g.ack).1,window := (farW g.window c.o),most := max c.most (farW g.window c.o),tries := 0 } (.slice v3a c.r.held.length v3c)⟩ ?_
 refine kQ ?_
 refine kEU [2,3,4,5,6] [] 3 ⟨50,[.int .i64 c.t.ip,.int .i64 c.t.port,.int .i64 c.t.my,.int .i64 c.state,.int .i64 ((acked c.s g.ack).1.una),.string ((acked c.s g.ack).1.data),.int .i64 ((acked c.s g.ack).1.sent),.bool ((acked c.s g.ack).1.fin),.bool ((acked c.s g.ack).1.finSent),.bool ((acked c.s g.ack).1.done),.int .i64 c.r.next,.string c.r.data,.slice v3a c.r.held.length v3c,.int .i64 c.r.fin,.bool c.r.done,.int .i64 (farW g.window c.o),.int .i64 (max c.most (farW g.window c.o)),.int .i64 c.o.mss,.int .i64 c.o.scale,.bool c.o.sack,.bool c.o.stamp,.int .i64 c.o.val,.int .i64 c.o.echo,.int .i64 0,.int .i64 0]⟩ ?_
 refine kQ ?_
 refine kCD 1 [2,3,4,5,57] [(57,.v (.agg (sndL (acked c.s g.ack).1).toArray))] 65 [.agg (sndL (acked c.s g.ack).1).toArray] (some 58) rfl (xc_b fun ww hf => iFlown_c ((acked c.s g.ack).1.una) ((acked c.s g.ack).1.data) ((acked c.s g.ack).1.sent) ((acked c.s g.ack).1.fin) ((acked c.s g.ack).1.finSent) ((acked c.s g.ack).1.done) ww ) ?_
 intro _
 refine kED [2,3,4,5,59] [(59,.v (.bool (decide ((flown ((acked c.s g.ack).1)) > 0))))] ?_
 refine kC (decide ((flown ((acked c.s g.ack).1)) > 0)) (fun h10 => ?_) (fun h10 => ?_)
 have h10p := of_decide_eq_true h10
 refine kG ?_
 refine kEU [2,3,4,5] [] 3 ⟨50,[.int .i64 c.t.ip,.int .i64 c.t.port,.int .i64 c.t.my,.int .i64 c.state,.int .i64 ((acked c.s g.ack).1.una),.string ((acked c.s g.ack).1.data),.int .i64 ((acked c.s g.ack).1.sent),.bool ((acked c.s g.ack).1.fin),.bool ((acked c.s g.ack).1.finSent),.bool ((acked c.s g.ack).1.done),.int .i64 c.r.next,.string c.r.data,.slice v3a c.r.held.length v3c,.int .i64 c.r.fin,.bool c.r.done,.int .i64 (farW g.window c.o),.int .i64 (max c.most (farW g.window c.o)),.int .i64 c.o.mss,.int .i64 c.o.scale,.bool c.o.sack,.bool c.o.stamp,.int .i64 c.o.val,.int .i64 c.o.echo,.int .i64 3,.int .i64 0]⟩ ?_
 exact ⟨⟨(⟨c.t,c.state,(acked c.s g.ack).1,c.r,(farW g.window c.o),max c.most (farW g.window c.o),c.o,3,0⟩),(by unfold heardMid; first | (simp [*]; done) | grind)⟩,kF 4 0 [2,3,4,5]⟩
 have h10p := of_decide_eq_false h10
 refine kK ?_
 exact ⟨⟨(⟨c.t,c.state,(acked c.s g.ack).1,c.r,(farW g.window c.o),max c.most (farW g.window c.o),c.o,0,0⟩),(by unfold heardMid; first | (simp [*]; done) | grind)⟩,kF 4 0 [2,3,4,5]⟩
 have h9p := neF h9
 refine kK ?_
 exact ⟨⟨({ c with s := (acked c.s g.ack).1,window := (farW g.window c.o),most := max c.most (farW g.window c.o) }),(by unfold heardMid; first | (simp [*]; done) | grind)⟩,kF 4 0 [2,3,4,5]⟩
 have h8p := eqF h8
 refine kED [2,3,4,5,6,54] [(54,.v (.bool false))] ?_
 refine kN ?_
 refine kK ?_
 exact ⟨⟨({ c with s := (acked c.s g.ack).1,window := (farW g.window c.o),most := max c.most (farW g.window c.o) }),(by unfold heardMid; first | (simp [*]; done) | grind)⟩,kF 4 0 [2,3,4,5]⟩
 refine kK ?_
 exact ⟨⟨(c),(by unfold heardMid; first | (simp [*]; done) | grind)⟩,kF 4 0 [2,3,4,5]⟩
 rintro ⟨m,hm5⟩
 try dsimp only
 try dsimp only at hm5
 have hmr : m.r = c.r := by rw [hm5]; exact (heardMid_eq c g).1
 have hm1 : m.r.held.length ≤ 1048576 := by rw [hmr]; exact hkn
 have hm2 : ∀ p ∈ m.r.held,p.text.size ≤ 1048576 := by rw [hmr]; exact hm
 have hm3 : m.r.data.size ≤ 4611686018427387904 := by rw [hmr]; exact hsz
 refine kS ?_
 refine kQ ?_
 refine kRD 4 [2,3,4,5,64] [(64,.v (.bool (c.state == 1)))] ?_
 refine kP 64 (c.state == 1) (fun h11 => ?_) (fun h11 => ?_)
 have h11p := eqT h11
 refine kED [2,3,4,5,73] [(73,.v (.bool true))] ?_
 refine kT ?_
 refine xe_region0 [true,true,true,false] (by kernel_rfl) (fun ρ σ => ?_)
 refine kTS [0,1,2,3,4,5,6] [80,79,77,75,4,5] 4 [(80,.v (.agg (segL g).toArray)),(79,.v (.string g.body)),(77,.v (.int .i64 g.seq)),(75,.v (.agg (rcvL c.r (.slice Acrh c.r.held.length Ccrh)).toArray)),(4,.p 2 0),(5,.p 3 0)] ?_
 refine kA [7] ?_
 refine kSC 7 66 [.agg (segL g).toArray,.int .i64 1] (some 81) rfl (xc_b fun ww hf => iHas_c g.src g.dst g.seq g.ack g.flags g.window g.o.mss g.o.scale g.o.sack g.o.stamp g.o.val g.o.echo g.body 1 ww ) ?_
 intro _
 refine kA [8] ?_
 refine kSC 8 9 [.agg (rcvL c.r (.slice Acrh c.r.held.length Ccrh)).toArray,.int .i64 g.seq,.string g.body,.bool (hasF g.flags 1)] (some 82) rfl (xc_r fun ww hw hf => yiArrived_c c.r (.slice Acrh c.r.held.length Ccrh) g.seq g.body (hasF g.flags 1) ww (hf _ m1) (by assumption) (by assumption) (by omega) (by omega) w.heap.size hw) ?_
 rintro ⟨v12a,v12c⟩
 have hz13 := arrived_sz (H := 1048576) (T := 1048576) (D := 4611686018427387904) (r := c.r) (seq := g.seq) (t := g.body) (fin := (hasF g.flags 1)) (by assumption) (by assumption) (by assumption) (by omega) (by omega) (by omega)
 obtain ⟨hz13a,hz13b,hz13c⟩ := hz13
 refine kTS [9] [83,82,4,5] 1 [(83,.p 3 10),(82,.v (.agg (rcvL (arrived c.r g.seq g.body (hasF g.flags 1)) (.slice v12a ((arrived c.r g.seq g.body (hasF g.flags 1)).held.length) v12c)).toArray)),(4,.p 2 0),(5,.p 3 0)] ?_
 refine kA [10] ?_
 refine kSS 10 3 10 (rcvL (arrived c.r g.seq g.body (hasF g.flags 1)) (.slice v12a ((arrived c.r g.seq g.body (hasF g.flags 1)).held.length) v12c)) rfl ?_
 refine kZ ?_
 refine kQ ?_
 refine kCD 1 [4,84] [(84,.v (.agg (conL { m with r := (arrived c.r g.seq g.body (hasF g.flags 1)) } (.slice v12a ((arrived c.r g.seq g.body (hasF g.flags 1)).held.length) v12c)).toArray))] 67 [.agg (conL { m with r := (arrived c.r g.seq g.body (hasF g.flags 1)) } (.slice v12a ((arrived c.r g.seq g.body (hasF g.flags 1)).held.length) v12c)).toArray] (some 85) rfl (xc_r fun ww hw hf => yiTurned_c ({ m with r := (arrived c.r g.seq g.body (hasF g.flags 1)) }) (.slice v12a ((arrived c.r g.seq g.body (hasF g.flags 1)).held.length) v12c) ww (Own.sl (hf _ m0)) (by assumption) (by assumption) (by omega) w.heap.size hw) ?_
 rintro ⟨v14a,v14c⟩
 have hbd15 : (turned ({ m with r := (arrived c.r g.seq g.body (hasF g.flags 1)) })).r.held.length ≤ 1048576 := turned_bd _  (by omega)
 refine kEU [4] [(4,.p 2 0)] 2 ⟨50,conL (turned ({ m with r := (arrived c.r g.seq g.body (hasF g.flags 1)) })) (.slice v14a ((turned ({ m with r := (arrived c.r g.seq g.body (hasF g.flags 1)) })).r.held.length) v14c)⟩ ?_
 refine kR ?_
 have hmod : heard c g = (turned ({ m with r := (arrived c.r g.seq g.body (hasF g.flags 1)) })) := by first | (unfold heard; rw [if_pos hv5,← hm5]; unfold heardR; rw [if_pos (by assumption)]; done) | (unfold heard; rw [if_pos hv5,← hm5]; unfold heardR; rw [if_pos (by unfold inB; simp [*]; done)]; done) | (unfold heard; rw [if_pos hv5,← hm5]; unfold heardR; rw [if_neg (by unfold inB; simp; omega),← hmr]; done) | (unfold heard; rw [if_neg hv5]; done)
 exact ⟨[.agg (conL (turned ({ m with r := (arrived c.r g.seq g.body (hasF g.flags 1)) })) (.slice v14a ((turned ({ m with r := (arrived c.r g.seq g.body (hasF g.flags 1)) })).r.held.length) v14c)).toArray],by kernel_rfl,fun w' hb hf ha => by rw [hmod]; exact xo1 ((v14a,v14c)) rfl rfl (pO (hf _ m0) hB) hb⟩
 have h11p := eqF h11
 refine kRD 5 [2,3,4,5,69] [(69,.v (.bool (c.state == 2)))] ?_
 refine kP 69 (c.state == 2) (fun h16 => ?_) (fun h16 => ?_)
 have h16p := eqT h16
 refine kED [2,3,4,5,73] [(73,.v (.bool true))] ?_
 refine kT ?_
 refine xe_region0 [true,true,true,false] (by kernel_rfl) (fun ρ σ => ?_)
 refine kTS [0,1,2,3,4,5,6] [80,79,77,75,4,5] 4 [(80,.v (.agg (segL g).toArray)),(79,.v (.string g.body)),(77,.v (.int .i64 g.seq)),(75,.v (.agg (rcvL c.r (.slice Acrh c.r.held.length Ccrh)).toArray)),(4,.p 2 0),(5,.p 3 0)] ?_
 refine kA [7] ?_
 refine kSC 7 66 [.agg (segL g).toArray,.int .i64 1] (some 81) rfl (xc_b fun ww hf => iHas_c g.src g.dst g.seq g.ack g.flags g.window g.o.mss g.o.scale g.o.sack g.o.stamp g.o.val g.o.echo g.body 1 ww ) ?_
 intro _
 refine kA [8] ?_
 refine kSC 8 9 [.agg (rcvL c.r (.slice Acrh c.r.held.length Ccrh)).toArray,.int .i64 g.seq,.string g.body,.bool (hasF g.flags 1)] (some 82) rfl (xc_r fun ww hw hf => yiArrived_c c.r (.slice Acrh c.r.held.length Ccrh) g.seq g.body (hasF g.flags 1) ww (hf _ m1) (by assumption) (by assumption) (by omega) (by omega) w.heap.size hw) ?_
 rintro ⟨v17a,v17c⟩
 have hz18 := arrived_sz (H := 1048576) (T := 1048576) (D := 4611686018427387904) (r := c.r) (seq := g.seq) (t := g.body) (fin := (hasF g.flags 1)) (by assumption) (by assumption) (by assumption) (by omega) (by omega) (by omega)
 obtain ⟨hz18a,hz18b,hz18c⟩ := hz18
 refine kTS [9] [83,82,4,5] 1 [(83,.p 3 10),(82,.v (.agg (rcvL (arrived c.r g.seq g.body (hasF g.flags 1)) (.slice v17a ((arrived c.r g.seq g.body (hasF g.flags 1)).held.length) v17c)).toArray)),(4,.p 2 0),(5,.p 3 0)] ?_
 refine kA [10] ?_
 refine kSS 10 3 10 (rcvL (arrived c.r g.seq g.body (hasF g.flags 1)) (.slice v17a ((arrived c.r g.seq g.body (hasF g.flags 1)).held.length) v17c)) rfl ?_
 refine kZ ?_
 refine kQ ?_
 refine kCD 1 [4,84] [(84,.v (.agg (conL { m with r := (arrived c.r g.seq g.body (hasF g.flags 1)) } (.slice v17a ((arrived c.r g.seq g.body (hasF g.flags 1)).held.length) v17c)).toArray))] 67 [.agg (conL { m with r := (arrived c.r g.seq g.body (hasF g.flags 1)) } (.slice v17a ((arrived c.r g.seq g.body (hasF g.flags 1)).held.length) v17c)).toArray] (some 85) rfl (xc_r fun ww hw hf => yiTurned_c ({ m with r := (arrived c.r g.seq g.body (hasF g.flags 1)) }) (.slice v17a ((arrived c.r g.seq g.body (hasF g.flags 1)).held.length) v17c) ww (Own.sl (hf _ m0)) (by assumption) (by assumption) (by omega) w.heap.size hw) ?_
 rintro ⟨v19a,v19c⟩
 have hbd20 : (turned ({ m with r := (arrived c.r g.seq g.body (hasF g.flags 1)) })).r.held.length ≤ 1048576 := turned_bd _  (by omega)
 refine kEU [4] [(4,.p 2 0)] 2 ⟨50,conL (turned ({ m with r := (arrived c.r g.seq g.body (hasF g.flags 1)) })) (.slice v19a ((turned ({ m with r := (arrived c.r g.seq g.body (hasF g.flags 1)) })).r.held.length) v19c)⟩ ?_
 refine kR ?_
 have hmod : heard c g = (turned ({ m with r := (arrived c.r g.seq g.body (hasF g.flags 1)) })) := by first | (unfold heard; rw [if_pos hv5,← hm5]; unfold heardR; rw [if_pos (by assumption)]; done) | (unfold heard; rw [if_pos hv5,← hm5]; unfold heardR; rw [if_pos (by unfold inB; simp [*]; done)]; done) | (unfold heard; rw [if_pos hv5,← hm5]; unfold heardR; rw [if_neg (by unfold inB; simp; omega),← hmr]; done) | (unfold heard; rw [if_neg hv5]; done)
 exact ⟨[.agg (conL (turned ({ m with r := (arrived c.r g.seq g.body (hasF g.flags 1)) })) (.slice v19a ((turned ({ m with r := (arrived c.r g.seq g.body (hasF g.flags 1)) })).r.held.length) v19c)).toArray],by kernel_rfl,fun w' hb hf ha => by rw [hmod]; exact xo1 ((v19a,v19c)) rfl rfl (pO (hf _ m0) hB) hb⟩
 have h16p := eqF h16
 refine kED [2,3,4,5,73] [(73,.v (.bool (c.state == 3)))] ?_
 refine kC (c.state == 3) (fun h21 => ?_) (fun h21 => ?_)
 have h21p := eqT h21
 refine xe_region0 [true,true,true,false] (by kernel_rfl) (fun ρ σ => ?_)
 refine kTS [0,1,2,3,4,5,6] [80,79,77,75,4,5] 4 [(80,.v (.agg (segL g).toArray)),(79,.v (.string g.body)),(77,.v (.int .i64 g.seq)),(75,.v (.agg (rcvL c.r (.slice Acrh c.r.held.length Ccrh)).toArray)),(4,.p 2 0),(5,.p 3 0)] ?_
 refine kA [7] ?_
 refine kSC 7 66 [.agg (segL g).toArray,.int .i64 1] (some 81) rfl (xc_b fun ww hf => iHas_c g.src g.dst g.seq g.ack g.flags g.window g.o.mss g.o.scale g.o.sack g.o.stamp g.o.val g.o.echo g.body 1 ww ) ?_
 intro _
 refine kA [8] ?_
 refine kSC 8 9 [.agg (rcvL c.r (.slice Acrh c.r.held.length Ccrh)).toArray,.int .i64 g.seq,.string g.body,.bool (hasF g.flags 1)] (some 82) rfl (xc_r fun ww hw hf => yiArrived_c c.r (.slice Acrh c.r.held.length Ccrh) g.seq g.body (hasF g.flags 1) ww (hf _ m1) (by assumption) (by assumption) (by omega) (by omega) w.heap.size hw) ?_
 rintro ⟨v22a,v22c⟩
 have hz23 := arrived_sz (H := 1048576) (T := 1048576) (D := 4611686018427387904) (r := c.r) (seq := g.seq) (t := g.body) (fin := (hasF g.flags 1)) (by assumption) (by assumption) (by assumption) (by omega) (by omega) (by omega)
 obtain ⟨hz23a,hz23b,hz23c⟩ := hz23
 refine kTS [9] [83,82,4,5] 1 [(83,.p 3 10),(82,.v (.agg (rcvL (arrived c.r g.seq g.body (hasF g.flags 1)) (.slice v22a ((arrived c.r g.seq g.body (hasF g.flags 1)).held.length) v22c)).toArray)),(4,.p 2 0),(5,.p 3 0)] ?_
 refine kA [10] ?_
 refine kSS 10 3 10 (rcvL (arrived c.r g.seq g.body (hasF g.flags 1)) (.slice v22a ((arrived c.r g.seq g.body (hasF g.flags 1)).held.length) v22c)) rfl ?_
 refine kZ ?_
 refine kQ ?_
 refine kCD 1 [4,84] [(84,.v (.agg (conL { m with r := (arrived c.r g.seq g.body (hasF g.flags 1)) } (.slice v22a ((arrived c.r g.seq g.body (hasF g.flags 1)).held.length) v22c)).toArray))] 67 [.agg (conL { m with r := (arrived c.r g.seq g.body (hasF g.flags 1)) } (.slice v22a ((arrived c.r g.seq g.body (hasF g.flags 1)).held.length) v22c)).toArray] (some 85) rfl (xc_r fun ww hw hf => yiTurned_c ({ m with r := (arrived c.r g.seq g.body (hasF g.flags 1)) }) (.slice v22a ((arrived c.r g.seq g.body (hasF g.flags 1)).held.length) v22c) ww (Own.sl (hf _ m0)) (by assumption) (by assumption) (by omega) w.heap.size hw) ?_
 rintro ⟨v24a,v24c⟩
 have hbd25 : (turned ({ m with r := (arrived c.r g.seq g.body (hasF g.flags 1)) })).r.held.length ≤ 1048576 := turned_bd _  (by omega)
 refine kEU [4] [(4,.p 2 0)] 2 ⟨50,conL (turned ({ m with r := (arrived c.r g.seq g.body (hasF g.flags 1)) })) (.slice v24a ((turned ({ m with r := (arrived c.r g.seq g.body (hasF g.flags 1)) })).r.held.length) v24c)⟩ ?_
 refine kR ?_
 have hmod : heard c g = (turned ({ m with r := (arrived c.r g.seq g.body (hasF g.flags 1)) })) := by first | (unfold heard; rw [if_pos hv5,← hm5]; unfold heardR; rw [if_pos (by assumption)]; done) | (unfold heard; rw [if_pos hv5,← hm5]; unfold heardR; rw [if_pos (by unfold inB; simp [*]; done)]; done) | (unfold heard; rw [if_pos hv5,← hm5]; unfold heardR; rw [if_neg (by unfold inB; simp; omega),← hmr]; done) | (unfold heard; rw [if_neg hv5]; done)
 exact ⟨[.agg (conL (turned ({ m with r := (arrived c.r g.seq g.body (hasF g.flags 1)) })) (.slice v24a ((turned ({ m with r := (arrived c.r g.seq g.body (hasF g.flags 1)) })).r.held.length) v24c)).toArray],by kernel_rfl,fun w' hb hf ha => by rw [hmod]; exact xo1 ((v24a,v24c)) rfl rfl (pO (hf _ m0) hB) hb⟩
 have h21p := eqF h21
 refine kK ?_
 refine kQ ?_
 refine kCD 1 [4,84] [(84,.v (.agg (conL m (.slice v3a m.r.held.length v3c)).toArray))] 67 [.agg (conL m (.slice v3a m.r.held.length v3c)).toArray] (some 85) rfl (xc_r fun ww hw hf => yiTurned_c m (.slice v3a m.r.held.length v3c) ww (Own.sl (hf _ m0)) (by assumption) (by assumption) (by omega) w.heap.size hw) ?_
 rintro ⟨v26a,v26c⟩
 have hbd27 : (turned m).r.held.length ≤ 1048576 := turned_bd _  (by omega)
 refine kEU [4] [(4,.p 2 0)] 2 ⟨50,conL (turned m) (.slice v26a ((turned m).r.held.length) v26c)⟩ ?_
 refine kR ?_
 have hmod : heard c g = (turned m) := by first | (unfold heard; rw [if_pos hv5,← hm5]; unfold heardR; rw [if_pos (by assumption)]; done) | (unfold heard; rw [if_pos hv5,← hm5]; unfold heardR; rw [if_pos (by unfold inB; simp [*]; done)]; done) | (unfold heard; rw [if_pos hv5,← hm5]; unfold heardR; rw [if_neg (by unfold inB; simp; omega),← hmr]; done) | (unfold heard; rw [if_neg hv5]; done)
 exact ⟨[.agg (conL (turned m) (.slice v26a ((turned m).r.held.length) v26c)).toArray],by kernel_rfl,fun w' hb hf ha => by rw [hmod]; exact xo1 ((v26a,v26c)) rfl rfl (pO (hf _ m0) hB) hb⟩
end Go.Proofs.Ytebgmdiejgcoiaa
